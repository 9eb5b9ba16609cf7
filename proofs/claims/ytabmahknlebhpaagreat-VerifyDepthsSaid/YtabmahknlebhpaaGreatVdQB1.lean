/- Parts of the proof. -/
import Derived.Test.YtabmahknlebhpaaGreatVdQC
namespace Go.Proofs.YtabmahknlebhpaaGreat
open Go.RowKit
set_option linter.unusedVariables false
set_option maxRecDepth 100000
set_option maxHeartbeats 4000000
noncomputable section
def Qb0 (g : Q_g) (a : (List UInt8)) (b : Int) : Option RT2 :=
 g (.c1 a b false)
def Qb1 (g : Q_g) (a : (List UInt8)) (b : Int) (c : Bool) : Option RT2 :=
 (cond (decide (b < (a.length : Int))) ((getI a b).bind fun d => (cond (decide ((d.toNat : Int) = 35)) (g (.c3 a b true d)) (g (.c3 a b c d)))) (g (.c4 b)))
def Qb2 (g : Q_g) (a : (List UInt8)) (b : Int) (c : Bool) (d : UInt8) : Option RT2 :=
 (cond (!c) (cond (!(decide ((d.toNat : Int) = 32))) (cond (!(decide ((d.toNat : Int) = 9))) (cond (!(decide ((d.toNat : Int) = 13))) (cond (!(decide ((d.toNat : Int) = 10))) (some ((b, ()), ())) (g (.c1 a (w64 (b + 1)) c))) (g (.c1 a (w64 (b + 1)) c))) (g (.c1 a (w64 (b + 1)) c))) (g (.c1 a (w64 (b + 1)) c))) (g (.c1 a (w64 (b + 1)) c)))
def Qb3 (g : Q_g) (a : (List UInt8)) (b : Int) (c : Bool) (d : UInt8) : Option RT2 :=
 (cond (decide ((d.toNat : Int) = 10)) (g (.c2 a b false d)) (g (.c2 a b c d)))
def Qb4 (g : Q_g) (a : Int) : Option RT2 :=
 (some ((a, ()), ()))
def Qb5 (g : Q_g) (a : (List UInt8)) (b : Int) : Option RT15 :=
 g (.c6 a b 1 1 0)
def Qb6 (g : Q_g) (a : (List UInt8)) (b : Int) (c : Int) (d : Int) (e : Int) : Option RT15 :=
 (cond (decide (e < b)) ((getI a e).bind fun f => (cond (decide ((f.toNat : Int) = 10)) (g (.c6 a b (w64 (c + 1)) 1 (w64 (e + 1)))) (g (.c6 a b c (w64 (d + 1)) (w64 (e + 1)))))) (g (.c7 c d)))
def Qb7 (g : Q_g) (a : Int) (b : Int) : Option RT15 :=
 (some ((a, b, ()), ()))
def Qb8 (g : Q_g) (a : Int) : Option RT2 :=
 (cond (decide (a ≥ 97)) (cond (decide (a ≤ 122)) (some ((1, ()), ())) (cond (decide (a = 95)) (some ((1, ()), ())) (g (.c10 a)))) (cond (decide (a = 95)) (some ((1, ()), ())) (g (.c10 a))))
def Qb9 (g : Q_g) (a : Int) : Option RT2 :=
 (cond (decide (a ≥ 48)) (cond (decide (a ≤ 57)) (some ((3, ()), ())) (g (.c11))) (g (.c11)))
def Qb10 (g : Q_g) (a : Int) : Option RT2 :=
 (cond (decide (a ≥ 65)) (cond (decide (a ≤ 90)) (some ((2, ()), ())) (g (.c9 a))) (g (.c9 a)))
def Qb11 (g : Q_g)  : Option RT2 :=
 (some ((0, ()), ()))
def Qb12 (g : Q_g) (a : (List UInt8)) (b : Int) : Option RT2 :=
 g (.c13 a b)
def Qb13 (g : Q_g) (a : (List UInt8)) (b : Int) : Option RT2 :=
 (cond (decide (b < (a.length : Int))) ((getI a b).bind fun c => ((g (.c8 (c.toNat : Int))).bind fun (d : RT2) => (cond (decide (d.1.1 > 0)) (g (.c13 a (w64 (b + 1)))) (g (.c14 b))))) (g (.c14 b)))
def Qb14 (g : Q_g) (a : Int) : Option RT2 :=
 (some ((a, ()), ()))
def Qb15 (g : Q_g) (a : (List UInt8)) : Option RT0 :=
 g (.c16 a 0)
def Qb16 (g : Q_g) (a : (List UInt8)) (b : Int) : Option RT0 :=
 (cond (decide (b < (Qk1.length : Int))) ((getI Qk1 b).bind fun c => ((Qk1[(Int.toNat b)]?).bind fun d => (cond (decide (d = a)) (some ((true, ()), ())) (g (.c16 a (w64 (b + 1))))))) (g (.c17)))
def Qb17 (g : Q_g)  : Option RT0 :=
 (some ((false, ()), ()))
def Qb18 (g : Q_g) (a : GR01D) : Option RT8 :=
 (xr01_Minus a).bind fun r => (some ((r, ()), ()) : Option RT8)
def Qb19 (g : Q_g) (a : Int) : Option RT8 :=
 (xr01_Of a).bind fun r => (some ((r, ()), ()) : Option RT8)
def Qb20 (g : Q_g) (a : GR01D) : Option RT2 :=
 (xr01_D_Number a).bind fun r => (some ((r, ()), ()) : Option RT2)
def Qb21 (g : Q_g) (a : (List UInt8)) : Option RT15 :=
 (cond (decide ((a.length : Int) > 0)) ((getI a 0).bind fun b => (cond (decide ((b.toNat : Int) = 45)) ((okP (CutR 1 (a.length : Int) (a.length : Int))).bind fun _ => g (.c24 a (cutL a 1 (a.length : Int)))) (g (.c24 a a)))) (g (.c24 a a)))
def Qb22 (g : Q_g) (a : (List UInt8)) (b : (List UInt8)) (c : Int) : Option RT15 :=
 (cond (decide (c < (b.length : Int))) ((getI b c).bind fun d => (cond (decide ((d.toNat : Int) < 48)) (some ((0, 2, ()), ())) ((getI b c).bind fun e => (cond (decide ((e.toNat : Int) > 57)) (some ((0, 2, ()), ())) (g (.c22 a b (w64 (c + 1)))))))) (g (.c25 a b)))
def Qb23 (g : Q_g) (a : (List UInt8)) (b : (List UInt8)) : Option RT15 :=
 g (.c22 a b 0)
def Qb24 (g : Q_g) (a : (List UInt8)) (b : (List UInt8)) : Option RT15 :=
 (cond (decide ((b.length : Int) = 0)) (some ((0, 2, ()), ())) ((getI b 0).bind fun c => (cond (decide ((c.toNat : Int) = 48)) (cond (decide ((a.length : Int) > 1)) (some ((0, 2, ()), ())) (g (.c23 a b))) (g (.c23 a b)))))
def Qb25 (g : Q_g) (a : (List UInt8)) (b : (List UInt8)) : Option RT15 :=
 (cond (decide ((a.length : Int) > (b.length : Int))) (g (.c28 a b ([57, 50, 50, 51, 51, 55, 50, 48, 51, 54, 56, 53, 52, 55, 55, 53, 56, 48, 56] : List UInt8))) (g (.c28 a b ([57, 50, 50, 51, 51, 55, 50, 48, 51, 54, 56, 53, 52, 55, 55, 53, 56, 48, 55] : List UInt8))))
def Qb26 (g : Q_g) (a : (List UInt8)) (b : (List UInt8)) (c : Int) (d : Int) : Option RT15 :=
 (cond (decide (d < (b.length : Int))) ((getI b d).bind fun e => g (.c26 a b (IntKind.wrap .u64 ((IntKind.wrap .u64 ((IntKind.wrap .u64 (c * 10)) + (IntKind.wrap .u64 (e.toNat : Int)))) - 48)) (w64 (d + 1)))) (g (.c29 a b c)))
def Qb27 (g : Q_g) (a : (List UInt8)) (b : (List UInt8)) : Option RT15 :=
 g (.c26 a b 0 0)
def Qb28 (g : Q_g) (a : (List UInt8)) (b : (List UInt8)) (c : (List UInt8)) : Option RT15 :=
 (cond (decide ((b.length : Int) > (c.length : Int))) (some ((0, 14, ()), ())) (cond (decide ((b.length : Int) = (c.length : Int))) (cond (!(Op.bytesLess b c || decide (b = c))) (some ((0, 14, ()), ())) (g (.c27 a b))) (g (.c27 a b))))
def Qb29 (g : Q_g) (a : (List UInt8)) (b : (List UInt8)) (c : Int) : Option RT15 :=
 (cond (decide ((a.length : Int) > (b.length : Int))) ((g (.c19 (w64 c))).bind fun (d : RT8) => ((g (.c18 d.1.1)).bind fun (e : RT8) => ((g (.c20 e.1.1)).bind fun (f : RT2) => (some ((f.1.1, 0, ()), ()))))) (some (((w64 c), 0, ()), ())))
def Qb30 (g : Q_g) (a : (List UInt8)) (b : Int) : Option RT20 :=
 g (.c31 a b b)
def Qb31 (g : Q_g) (a : (List UInt8)) (b : Int) (c : Int) : Option RT20 :=
 (cond (decide (c < (a.length : Int))) ((getI a c).bind fun d => ((g (.c8 (d.toNat : Int))).bind fun (e : RT2) => (cond (decide (e.1.1 = 3)) (g (.c31 a b (w64 (c + 1)))) (g (.c32 a b c))))) (g (.c32 a b c)))
def Qb32 (g : Q_g) (a : (List UInt8)) (b : Int) (c : Int) : Option RT20 :=
 ((g (.c12 a c)).bind fun (d : RT2) => (cond (decide (d.1.1 = (w64 (c + 1)))) ((getI a c).bind fun e => (cond (decide ((e.toNat : Int) = 105)) (g (.c34 a b c d 8388607 4)) (g (.c35 a b c d)))) (g (.c35 a b c d))))
def Qb33 (g : Q_g) (a : (List UInt8)) (b : Int) (c : Int) (d : RT2) (e : Int) (f : Int) : Option RT20 :=
 (cond (decide (b < (w64 (c - 1)))) ((getI a b).bind fun h => (cond (decide ((h.toNat : Int) = 48)) (g (.c33 a (w64 (b + 1)) c d e f)) (g (.c36 a b c d e f)))) (g (.c36 a b c d e f)))
def Qb34 (g : Q_g) (a : (List UInt8)) (b : Int) (c : Int) (d : RT2) (e : Int) (f : Int) : Option RT20 :=
 g (.c33 a b c d e f)
def Qb35 (g : Q_g) (a : (List UInt8)) (b : Int) (c : Int) (d : RT2) : Option RT20 :=
 (cond (!(decide (d.1.1 = c))) (some (((GApiToken.mk 3 0 0 0 ([] : List UInt8)), 0, 4, ()), ())) (g (.c34 a b c d 9223372036854775807 3)))
def Qb36 (g : Q_g) (a : (List UInt8)) (b : Int) (c : Int) (d : RT2) (e : Int) (f : Int) : Option RT20 :=
 ((okP (CutR b c (a.length : Int))).bind fun _ => ((g (.c21 (cutL a b c))).bind fun (h : RT15) => (cond (!(decide (h.1.2.1 = 0))) (some (((GApiToken.mk f 0 0 0 ([] : List UInt8)), 0, 14, ()), ())) (cond (decide (h.1.1 > e)) (some (((GApiToken.mk f 0 0 0 ([] : List UInt8)), 0, 14, ()), ())) (some (((GApiToken.mk f 0 0 h.1.1 ([] : List UInt8)), d.1.1, 0, ()), ()))))))
def Qb37 (g : Q_g) (a : Int) : Option RT2 :=
 (cond (decide (a ≥ 48)) (cond (decide (a ≤ 57)) (some (((w64 ((w64 a) - 48)), ()), ())) (g (.c39 a))) (g (.c39 a)))
def Qb38 (g : Q_g) (a : Int) : Option RT2 :=
 (cond (decide (a ≥ 65)) (cond (decide (a ≤ 70)) (some (((w64 ((w64 a) - 55)), ()), ())) (g (.c40))) (g (.c40)))
def Qb39 (g : Q_g) (a : Int) : Option RT2 :=
 (cond (decide (a ≥ 97)) (cond (decide (a ≤ 102)) (some (((w64 ((w64 a) - 87)), ()), ())) (g (.c38 a))) (g (.c38 a)))
def Qb40 (g : Q_g)  : Option RT2 :=
 (some (((-1), ()), ()))
def Qb41 (g : Q_g) (a : (List UInt8)) : Option RT21 :=
 (cond (decide ((a.length : Int) = 0)) (some ((([] : List UInt8), 0, false, ()), ())) ((getI a 0).bind fun b => (cond (!(decide ((b.toNat : Int) = 34))) (some ((([] : List UInt8), 0, false, ()), ())) (g (.c42 a 1 ([] : List Int))))))
def Qb42 (g : Q_g) (a : (List UInt8)) (b : Int) (c : (List Int)) : Option RT21 :=
 (cond (decide (b < (a.length : Int))) ((getI a b).bind fun d => (cond (decide ((d.toNat : Int) < 32)) (some ((([] : List UInt8), b, false, ()), ())) (cond (decide ((d.toNat : Int) > 126)) (some ((([] : List UInt8), b, false, ()), ())) (cond (decide ((d.toNat : Int) = 34)) ((bytesO c).bind fun _ => (some (((bytesS c), (w64 (b + 1)), true, ()), ()))) (cond (!(decide ((d.toNat : Int) = 92))) ((appD 1 c ([(d.toNat : Int)] : List Int)).bind fun e => g (.c46 a b e)) (cond (decide ((w64 (b + 1)) ≥ (a.length : Int))) (some ((([] : List UInt8), (w64 (b + 1)), false, ()), ())) ((getI a (w64 (b + 1))).bind fun f => (cond (decide ((f.toNat : Int) = 34)) (g (.c43 a b c)) (cond (decide ((f.toNat : Int) = 92)) (g (.c43 a b c)) (cond (decide ((f.toNat : Int) = 110)) ((appD 1 c ([10] : List Int)).bind fun h => g (.c46 a (w64 (b + 1)) h)) (cond (decide ((f.toNat : Int) = 116)) ((appD 1 c ([9] : List Int)).bind fun j => g (.c46 a (w64 (b + 1)) j)) (cond (decide ((f.toNat : Int) = 120)) (g (.c44 a b 1 c)) (some ((([] : List UInt8), (w64 (b + 1)), false, ()), ())))))))))))))) (g (.c45 a)))
def Qb43 (g : Q_g) (a : (List UInt8)) (b : Int) (c : (List Int)) : Option RT21 :=
 ((getI a (w64 (b + 1))).bind fun d => ((appD 1 c ([(d.toNat : Int)] : List Int)).bind fun e => g (.c46 a (w64 (b + 1)) e)))
def Qb44 (g : Q_g) (a : (List UInt8)) (b : Int) (c : Int) (d : (List Int)) : Option RT21 :=
 (cond (decide (c ≤ 2)) (cond (decide ((w64 ((w64 (b + 1)) + c)) ≥ (a.length : Int))) (some ((([] : List UInt8), (w64 ((w64 (b + 1)) + c)), false, ()), ())) ((getI a (w64 ((w64 (b + 1)) + c))).bind fun e => ((g (.c37 (e.toNat : Int))).bind fun (f : RT2) => (cond (decide (f.1.1 < 0)) (some ((([] : List UInt8), (w64 ((w64 (b + 1)) + c)), false, ()), ())) (g (.c44 a b (w64 (c + 1)) d)))))) (g (.c47 a b d)))
def Qb45 (g : Q_g) (a : (List UInt8)) : Option RT21 :=
 (some ((([] : List UInt8), (a.length : Int), false, ()), ()))
def Qb46 (g : Q_g) (a : (List UInt8)) (b : Int) (c : (List Int)) : Option RT21 :=
 g (.c42 a (w64 (b + 1)) c)
def Qb47 (g : Q_g) (a : (List UInt8)) (b : Int) (c : (List Int)) : Option RT21 :=
 ((getI a (w64 ((w64 (b + 1)) + 1))).bind fun d => ((g (.c37 (d.toNat : Int))).bind fun (e : RT2) => ((getI a (w64 ((w64 (b + 1)) + 2))).bind fun f => ((g (.c37 (f.toNat : Int))).bind fun (h : RT2) => ((appD 1 c ([(IntKind.wrap .u8 (w64 ((w64 (e.1.1 * 16)) + h.1.1)))] : List Int)).bind fun j => g (.c46 a (w64 ((w64 (b + 1)) + 2)) j))))))
def Qb48 (g : Q_g) (a : (List UInt8)) (b : Int) : Option RT20 :=
 ((getI a b).bind fun c => ((g (.c8 (c.toNat : Int))).bind fun (d : RT2) => (cond (decide (d.1.1 = 1)) (g (.c49 a b)) (cond (decide (d.1.1 = 2)) (g (.c49 a b)) (cond (decide (d.1.1 = 3)) ((g (.c30 a b)).bind fun (e : RT20) => (some ((e.1.1, e.1.2.1, e.1.2.2.1, ()), ()))) ((getI a b).bind fun f => (cond (decide ((f.toNat : Int) = 34)) ((okP (CutR b (a.length : Int) (a.length : Int))).bind fun _ => ((g (.c41 (cutL a b (a.length : Int)))).bind fun (h : RT21) => (cond (!h.1.2.2.1) (some (((GApiToken.mk 0 0 0 0 ([] : List UInt8)), 0, 4, ()), ())) (some (((GApiToken.mk 5 0 0 0 h.1.1), (w64 (b + h.1.2.1)), 0, ()), ()))))) (g (.c50 a b 0)))))))))
def Qb49 (g : Q_g) (a : (List UInt8)) (b : Int) : Option RT20 :=
 ((g (.c12 a b)).bind fun (c : RT2) => ((okP (CutR b c.1.1 (a.length : Int))).bind fun _ => ((getI a b).bind fun d => ((g (.c8 (d.toNat : Int))).bind fun (e : RT2) => (cond (decide (e.1.1 = 2)) (some (((GApiToken.mk 2 0 0 0 (cutL a b c.1.1)), c.1.1, 0, ()), ())) ((g (.c15 (cutL a b c.1.1))).bind fun (f : RT0) => (cond f.1.1 (some (((GApiToken.mk 6 0 0 0 (cutL a b c.1.1)), c.1.1, 0, ()), ())) (some (((GApiToken.mk 1 0 0 0 (cutL a b c.1.1)), c.1.1, 0, ()), ())))))))))
def Qb50 (g : Q_g) (a : (List UInt8)) (b : Int) (c : Int) : Option RT20 :=
 (cond (decide (c < (Qk2.length : Int))) (cond (decide ((w64 (b + 2)) ≤ (a.length : Int))) ((okP (CutR b (w64 (b + 2)) (a.length : Int))).bind fun _ => ((getI Qk2 c).bind fun d => ((Qk2[(Int.toNat c)]?).bind fun e => (cond (decide ((cutL a b (w64 (b + 2))) = e)) ((getI Qk2 c).bind fun f => ((Qk2[(Int.toNat c)]?).bind fun h => (some (((GApiToken.mk 7 0 0 0 h), (w64 (b + 2)), 0, ()), ())))) (g (.c50 a b (w64 (c + 1)))))))) (g (.c50 a b (w64 (c + 1))))) (g (.c51 a b)))
def Qb51 (g : Q_g) (a : (List UInt8)) (b : Int) : Option RT20 :=
 g (.c52 a b 0)
def Qb52 (g : Q_g) (a : (List UInt8)) (b : Int) (c : Int) : Option RT20 :=
 (cond (decide (c < (Qk8.length : Int))) ((getI a b).bind fun d => ((getI Qk8 c).bind fun e => (cond (decide ((d.toNat : Int) = (e.toNat : Int))) ((okP (CutR c (w64 (c + 1)) (Qk8.length : Int))).bind fun _ => (some (((GApiToken.mk 7 0 0 0 (cutL Qk8 c (w64 (c + 1)))), (w64 (b + 1)), 0, ()), ()))) (g (.c52 a b (w64 (c + 1))))))) (g (.c53)))
def Qb53 (g : Q_g)  : Option RT20 :=
 (some (((GApiToken.mk 0 0 0 0 ([] : List UInt8)), 0, 4, ()), ()))
def Qb54 (g : Q_g) (a : (List UInt8)) : Option RT32 :=
 (cond (decide ((a.length : Int) > 65536)) (some ((([] : List GApiToken), (GApiFault.mk 3 0 0), ()), ())) ((g (.c0 a 0)).bind fun (b : RT2) => g (.c55 a b.1.1 0 1 1 ([] : List GApiToken))))
def Qb55 (g : Q_g) (a : (List UInt8)) (b : Int) (c : Int) (d : Int) (e : Int) (f : (List GApiToken)) : Option RT32 :=
 ((okP (CutR c (a.length : Int) (a.length : Int))).bind fun _ => ((g (.c5 (cutL a c (a.length : Int)) (w64 (b - c)))).bind fun (h : RT15) => (cond (decide (h.1.1 > 1)) (g (.c56 a b (w64 (d + (w64 (h.1.1 - 1)))) h.1.2.1 f)) (g (.c56 a b d (w64 (e + (w64 (h.1.2.1 - 1)))) f)))))
def Qb56 (g : Q_g) (a : (List UInt8)) (b : Int) (c : Int) (d : Int) (e : (List GApiToken)) : Option RT32 :=
 (cond (decide (b ≥ (a.length : Int))) ((appD 48 e ([(GApiToken.mk 8 c d 0 ([] : List UInt8))] : List GApiToken)).bind fun f => (some ((f, (GApiFault.mk 0 0 0), ()), ()))) ((g (.c48 a b)).bind fun (h : RT20) => (cond (!(decide (h.1.2.2.1 = 0))) (some ((([] : List GApiToken), (GApiFault.mk h.1.2.2.1 c d), ()), ())) ((appD 48 e ([(GApiToken.mk h.1.1.Kind c d h.1.1.Num h.1.1.Text)] : List GApiToken)).bind fun j => ((g (.c0 a h.1.2.1)).bind fun (k : RT2) => g (.c55 a k.1.1 b c d j))))))
def Qb57 (g : Q_g) (a : GR06P) : Option RT0 :=
 (some (((!(decide (a.F.Code = 0))), ()), ()))
def Qb58 (g : Q_g) (a : GR06P) : Option RT5 :=
 ((getI a.L a.I).bind fun b => (some ((b, ()), ())))
def Qb59 (g : Q_g) (a : GR06P) (b : (List UInt8)) : Option RT0 :=
 ((g (.c58 a)).bind fun (c : RT5) => ((g (.c57 a)).bind fun (d : RT0) => (cond (!d.1.1) (cond (decide (c.1.1.Kind = 6)) (some (((decide (c.1.1.Text = b)), ()), ())) (cond (decide (c.1.1.Kind = 7)) (some (((decide (c.1.1.Text = b)), ()), ())) (some ((false, ()), ())))) (some ((false, ()), ())))))
def Qb60 (g : Q_g) (a : Int) (b : GApiToken) (c : (List UInt8)) (d : Int) (e : (List GApiNode)) : Option RT19 :=
 ((appD 56 ([(GApiNode.mk a b.Line b.Col (e.length : Int) d c)] : List GApiNode) e).bind fun f => (some ((f, ()), ())))
def Qb61 (g : Q_g) (a : GR06P) (b : Int) : Option RT6 :=
 ((g (.c57 a)).bind fun (c : RT0) => (cond (!c.1.1) ((g (.c58 a)).bind fun (d : RT5) => ((g (.c58 a)).bind fun (e : RT5) => (some (((GR06P.mk a.L a.I a.Deep (GApiFault.mk b d.1.1.Line e.1.1.Col)), ()), ())))) (some ((a, ()), ()))))
def Qb62 (g : Q_g) (a : GR06P) (b : (List UInt8)) : Option RT6 :=
 ((g (.c59 a b)).bind fun (c : RT0) => (cond (!c.1.1) ((g (.c61 a 5)).bind fun (d : RT6) => (some ((d.1.1, ()), ()))) (some (((GR06P.mk a.L (w64 (a.I + 1)) a.Deep a.F), ()), ()))))
def Qb63 (g : Q_g) (a : GR06P) (b : Int) : Option RT17 :=
 ((g (.c58 a)).bind fun (c : RT5) => ((g (.c57 a)).bind fun (d : RT0) => (cond d.1.1 (g (.c64 a c)) (cond (!(decide (c.1.1.Kind = b))) (g (.c64 a c)) (some ((c.1.1, (GR06P.mk a.L (w64 (a.I + 1)) a.Deep a.F), ()), ()))))))
def Qb64 (g : Q_g) (a : GR06P) (b : RT5) : Option RT17 :=
 ((g (.c61 a 5)).bind fun (c : RT6) => (some ((b.1.1, c.1.1, ()), ())))
def Qb65 (g : Q_g) (a : GR06P) (b : (List UInt8)) : Option RT6 :=
 ((g (.c59 a b)).bind fun (c : RT0) => (cond c.1.1 (cond (decide (a.Deep ≥ 40)) ((g (.c61 a 6)).bind fun (d : RT6) => (some ((d.1.1, ()), ()))) (g (.c66 b a))) (g (.c66 b a))))
def Qb66 (g : Q_g) (a : (List UInt8)) (b : GR06P) : Option RT6 :=
 ((g (.c62 b a)).bind fun (c : RT6) => (some (((GR06P.mk c.1.1.L c.1.1.I (w64 (c.1.1.Deep + 1)) c.1.1.F), ()), ())))
def Qb67 (g : Q_g) (a : GR06P) (b : (List UInt8)) : Option RT6 :=
 ((g (.c62 a b)).bind fun (c : RT6) => (some (((GR06P.mk c.1.1.L c.1.1.I (w64 (c.1.1.Deep - 1)) c.1.1.F), ()), ())))
def Qb68 (g : Q_g) (a : GR06P) : Option RT18 :=
 ((g (.c58 a)).bind fun (b : RT5) => g (.c69 0 a b))
def Qb69 (g : Q_g) (a : Int) (b : GR06P) (c : RT5) : Option RT18 :=
 (cond (decide (a < (Qk0.length : Int))) ((getI Qk0 a).bind fun d => ((Qk0[(Int.toNat a)]?).bind fun e => ((g (.c59 b e)).bind fun (f : RT0) => (cond f.1.1 ((g (.c60 (IntKind.wrap .u8 (w64 (15 + a))) c.1.1 ([] : List UInt8) 0 ([] : List GApiNode))).bind fun (h : RT19) => ((getI Qk0 a).bind fun j => ((Qk0[(Int.toNat a)]?).bind fun k => ((g (.c62 b k)).bind fun (l : RT6) => (some ((h.1.1, l.1.1, ()), ())))))) (g (.c69 (w64 (a + 1)) b c)))))) (g (.c70 b c)))
def Qb70 (g : Q_g) (a : GR06P) (b : RT5) : Option RT18 :=
 ((g (.c59 a ([91] : List UInt8))).bind fun (c : RT0) => (cond c.1.1 ((g (.c65 a ([91] : List UInt8))).bind fun (d : RT6) => ((g (.c68 d.1.1)).bind fun (e : RT18) => ((g (.c60 20 b.1.1 ([] : List UInt8) 0 e.1.1)).bind fun (f : RT19) => ((g (.c67 e.1.2.1 ([93] : List UInt8))).bind fun (h : RT6) => (some ((f.1.1, h.1.1, ()), ())))))) ((g (.c63 a 2)).bind fun (j : RT17) => ((g (.c60 19 j.1.1 j.1.1.Text 0 ([] : List GApiNode))).bind fun (k : RT19) => (some ((k.1.1, j.1.2.1, ()), ()))))))
def Qb71 (g : Q_g) (a : GR06P) (b : Int) : Option RT18 :=
 ((g (.c63 a 1)).bind fun (c : RT17) => ((g (.c62 c.1.2.1 ([58] : List UInt8))).bind fun (d : RT6) => ((g (.c68 d.1.1)).bind fun (e : RT18) => ((g (.c60 b c.1.1 c.1.1.Text 0 e.1.1)).bind fun (f : RT19) => (some ((f.1.1, e.1.2.1, ()), ()))))))
def Qb72 (g : Q_g) (a : GR06P) : Option RT18 :=
 ((g (.c58 a)).bind fun (b : RT5) => ((g (.c62 a ([114, 101, 99] : List UInt8))).bind fun (c : RT6) => ((g (.c63 c.1.1 2)).bind fun (d : RT17) => ((g (.c65 d.1.2.1 ([123] : List UInt8))).bind fun (e : RT6) => g (.c73 e.1.1 b d ([] : List GApiNode))))))
def Qb73 (g : Q_g) (a : GR06P) (b : RT5) (c : RT17) (d : (List GApiNode)) : Option RT18 :=
 ((g (.c57 a)).bind fun (e : RT0) => (cond (!e.1.1) ((g (.c59 a ([125] : List UInt8))).bind fun (f : RT0) => (cond (!f.1.1) ((g (.c71 a 3)).bind fun (h : RT18) => ((g (.c62 h.1.2.1 ([59] : List UInt8))).bind fun (j : RT6) => ((appD 56 d h.1.1).bind fun k => g (.c73 j.1.1 b c k)))) (g (.c74 a b c d)))) (g (.c74 a b c d))))
def Qb74 (g : Q_g) (a : GR06P) (b : RT5) (c : RT17) (d : (List GApiNode)) : Option RT18 :=
 ((g (.c60 2 b.1.1 c.1.1.Text 0 d)).bind fun (e : RT19) => ((g (.c67 a ([125] : List UInt8))).bind fun (f : RT6) => (some ((e.1.1, f.1.1, ()), ()))))
def Qb75 (g : Q_g) (a : (List GApiNode)) (b : (List GApiNode)) : Option RT19 :=
 ((appD 56 ([] : List GApiNode) a).bind fun c => ((appD 56 c b).bind fun d => (some ((d, ()), ()))))
def Qb76 (g : Q_g) (a : GR06P) : Option RT18 :=
 ((g (.c65 a ([40] : List UInt8))).bind fun (b : RT6) => g (.c77 0 b.1.1 ([] : List GApiNode)))
def Qb77 (g : Q_g) (a : Int) (b : GR06P) (c : (List GApiNode)) : Option RT18 :=
 ((g (.c57 b)).bind fun (d : RT0) => (cond (!d.1.1) ((g (.c59 b ([41] : List UInt8))).bind fun (e : RT0) => (cond (!e.1.1) (cond (decide (a > 0)) ((g (.c62 b ([44] : List UInt8))).bind fun (f : RT6) => g (.c78 a f.1.1 c)) (g (.c78 a b c))) (g (.c79 b c)))) (g (.c79 b c))))
def Qb78 (g : Q_g) (a : Int) (b : GR06P) (c : (List GApiNode)) : Option RT18 :=
 ((g (.c91 b 1)).bind fun (d : RT18) => ((appD 56 c d.1.1).bind fun e => g (.c77 (w64 (a + 1)) d.1.2.1 e)))
def Qb79 (g : Q_g) (a : GR06P) (b : (List GApiNode)) : Option RT18 :=
 ((g (.c67 a ([41] : List UInt8))).bind fun (c : RT6) => (some ((b, c.1.1, ()), ())))
def Qb80 (g : Q_g) (a : GR06P) : Option RT18 :=
 ((g (.c58 a)).bind fun (b : RT5) => ((g (.c57 a)).bind fun (c : RT0) => (cond c.1.1 (some ((([(GApiNode.mk 25 0 0 0 0 ([] : List UInt8))] : List GApiNode), a, ()), ())) (cond (decide (b.1.1.Kind = 3)) ((g (.c60 21 b.1.1 ([] : List UInt8) b.1.1.Num ([] : List GApiNode))).bind fun (d : RT19) => (some ((d.1.1, (GR06P.mk a.L (if (w64 ((a.L.length : Int) - 1)) < (w64 (a.I + 1)) then (w64 ((a.L.length : Int) - 1)) else (w64 (a.I + 1))) a.Deep a.F), ()), ()))) (cond (decide (b.1.1.Kind = 4)) ((g (.c60 22 b.1.1 ([] : List UInt8) b.1.1.Num ([] : List GApiNode))).bind fun (e : RT19) => (some ((e.1.1, (GR06P.mk a.L (if (w64 ((a.L.length : Int) - 1)) < (w64 (a.I + 1)) then (w64 ((a.L.length : Int) - 1)) else (w64 (a.I + 1))) a.Deep a.F), ()), ()))) (cond (decide (b.1.1.Kind = 5)) ((g (.c60 23 b.1.1 b.1.1.Text 0 ([] : List GApiNode))).bind fun (f : RT19) => (some ((f.1.1, (GR06P.mk a.L (if (w64 ((a.L.length : Int) - 1)) < (w64 (a.I + 1)) then (w64 ((a.L.length : Int) - 1)) else (w64 (a.I + 1))) a.Deep a.F), ()), ()))) ((g (.c59 a ([116, 114, 117, 101] : List UInt8))).bind fun (h : RT0) => (cond h.1.1 ((g (.c60 24 b.1.1 ([] : List UInt8) 1 ([] : List GApiNode))).bind fun (j : RT19) => (some ((j.1.1, (GR06P.mk a.L (if (w64 ((a.L.length : Int) - 1)) < (w64 (a.I + 1)) then (w64 ((a.L.length : Int) - 1)) else (w64 (a.I + 1))) a.Deep a.F), ()), ()))) ((g (.c59 a ([102, 97, 108, 115, 101] : List UInt8))).bind fun (k : RT0) => (cond k.1.1 ((g (.c60 24 b.1.1 ([] : List UInt8) 0 ([] : List GApiNode))).bind fun (l : RT19) => (some ((l.1.1, (GR06P.mk a.L (if (w64 ((a.L.length : Int) - 1)) < (w64 (a.I + 1)) then (w64 ((a.L.length : Int) - 1)) else (w64 (a.I + 1))) a.Deep a.F), ()), ()))) ((g (.c59 a ([110, 105, 108] : List UInt8))).bind fun (m : RT0) => (cond m.1.1 ((g (.c60 25 b.1.1 ([] : List UInt8) 0 ([] : List GApiNode))).bind fun (n : RT19) => (some ((n.1.1, (GR06P.mk a.L (if (w64 ((a.L.length : Int) - 1)) < (w64 (a.I + 1)) then (w64 ((a.L.length : Int) - 1)) else (w64 (a.I + 1))) a.Deep a.F), ()), ()))) (cond (decide (b.1.1.Kind = 1)) ((g (.c59 (GR06P.mk a.L (if (w64 ((a.L.length : Int) - 1)) < (w64 (a.I + 1)) then (w64 ((a.L.length : Int) - 1)) else (w64 (a.I + 1))) a.Deep a.F) ([40] : List UInt8))).bind fun (o : RT0) => (cond (!o.1.1) ((g (.c60 26 b.1.1 b.1.1.Text 0 ([] : List GApiNode))).bind fun (p : RT19) => (some ((p.1.1, (GR06P.mk a.L (if (w64 ((a.L.length : Int) - 1)) < (w64 (a.I + 1)) then (w64 ((a.L.length : Int) - 1)) else (w64 (a.I + 1))) a.Deep a.F), ()), ()))) (g (.c82 a b)))) (g (.c82 a b)))))))))))))))
def Qb81 (g : Q_g) (a : GR06P) (b : RT5) : Option RT18 :=
 ((g (.c59 a ([109, 97, 107, 101] : List UInt8))).bind fun (c : RT0) => (cond c.1.1 ((g (.c63 (GR06P.mk a.L (if (w64 ((a.L.length : Int) - 1)) < (w64 (a.I + 1)) then (w64 ((a.L.length : Int) - 1)) else (w64 (a.I + 1))) a.Deep a.F) 2)).bind fun (d : RT17) => ((g (.c60 19 d.1.1 d.1.1.Text 0 ([] : List GApiNode))).bind fun (e : RT19) => ((g (.c60 32 b.1.1 ([] : List UInt8) 0 e.1.1)).bind fun (f : RT19) => ((g (.c65 d.1.2.1 ([40] : List UInt8))).bind fun (h : RT6) => ((g (.c67 h.1.1 ([41] : List UInt8))).bind fun (j : RT6) => (some ((f.1.1, j.1.1, ()), ()))))))) (g (.c83 a))))
def Qb82 (g : Q_g) (a : GR06P) (b : RT5) : Option RT18 :=
 (cond (decide (b.1.1.Kind = 1)) ((g (.c76 (GR06P.mk a.L (if (w64 ((a.L.length : Int) - 1)) < (w64 (a.I + 1)) then (w64 ((a.L.length : Int) - 1)) else (w64 (a.I + 1))) a.Deep a.F))).bind fun (c : RT18) => ((g (.c60 27 b.1.1 b.1.1.Text 0 c.1.1)).bind fun (d : RT19) => (some ((d.1.1, c.1.2.1, ()), ())))) ((g (.c59 a ([40] : List UInt8))).bind fun (e : RT0) => (cond e.1.1 ((g (.c65 a ([40] : List UInt8))).bind fun (f : RT6) => ((g (.c91 f.1.1 1)).bind fun (h : RT18) => ((g (.c67 h.1.2.1 ([41] : List UInt8))).bind fun (j : RT6) => (some ((h.1.1, j.1.1, ()), ()))))) ((g (.c59 a ([109, 97, 107, 101] : List UInt8))).bind fun (k : RT0) => (cond k.1.1 ((g (.c59 (GR06P.mk a.L (if (w64 ((a.L.length : Int) - 1)) < (w64 (a.I + 1)) then (w64 ((a.L.length : Int) - 1)) else (w64 (a.I + 1))) a.Deep a.F) ([91] : List UInt8))).bind fun (l : RT0) => (cond l.1.1 ((g (.c68 (GR06P.mk a.L (if (w64 ((a.L.length : Int) - 1)) < (w64 (a.I + 1)) then (w64 ((a.L.length : Int) - 1)) else (w64 (a.I + 1))) a.Deep a.F))).bind fun (m : RT18) => ((g (.c65 m.1.2.1 ([40] : List UInt8))).bind fun (n : RT6) => ((g (.c91 n.1.1 1)).bind fun (o : RT18) => ((g (.c75 m.1.1 o.1.1)).bind fun (p : RT19) => ((g (.c60 32 b.1.1 ([] : List UInt8) 0 p.1.1)).bind fun (q : RT19) => ((g (.c67 o.1.2.1 ([41] : List UInt8))).bind fun (s : RT6) => (some ((q.1.1, s.1.1, ()), ())))))))) (g (.c81 a b)))) (g (.c81 a b)))))))
def Qb83 (g : Q_g) (a : GR06P) : Option RT18 :=
 ((g (.c61 a 5)).bind fun (b : RT6) => (some ((([(GApiNode.mk 25 0 0 0 0 ([] : List UInt8))] : List GApiNode), b.1.1, ()), ())))
def Qb84 (g : Q_g) (a : GR06P) : Option RT18 :=
 ((g (.c80 a)).bind fun (b : RT18) => g (.c85 b.1.1 b.1.2.1))
def Qb85 (g : Q_g) (a : (List GApiNode)) (b : GR06P) : Option RT18 :=
 ((g (.c59 b ([91] : List UInt8))).bind fun (c : RT0) => (cond c.1.1 (g (.c86 a b)) ((g (.c59 b ([46] : List UInt8))).bind fun (d : RT0) => (cond d.1.1 (g (.c86 a b)) (g (.c87 a b))))))
def Qb86 (g : Q_g) (a : (List GApiNode)) (b : GR06P) : Option RT18 :=
 ((g (.c58 b)).bind fun (c : RT5) => (cond (decide (c.1.1.Text = ([91] : List UInt8))) ((g (.c65 b ([91] : List UInt8))).bind fun (d : RT6) => ((g (.c91 d.1.1 1)).bind fun (e : RT18) => ((g (.c67 e.1.2.1 ([93] : List UInt8))).bind fun (f : RT6) => ((g (.c75 a e.1.1)).bind fun (h : RT19) => ((g (.c60 28 c.1.1 ([] : List UInt8) 0 h.1.1)).bind fun (j : RT19) => g (.c85 j.1.1 f.1.1)))))) ((g (.c62 b ([46] : List UInt8))).bind fun (k : RT6) => ((g (.c63 k.1.1 1)).bind fun (l : RT17) => ((g (.c60 29 c.1.1 l.1.1.Text 0 a)).bind fun (m : RT19) => g (.c85 m.1.1 l.1.2.1))))))
def Qb87 (g : Q_g) (a : (List GApiNode)) (b : GR06P) : Option RT18 :=
 (some ((a, b, ()), ()))
def Qb88 (g : Q_g) (a : GR06P) : Option RT18 :=
 ((g (.c58 a)).bind fun (b : RT5) => ((g (.c59 a ([45] : List UInt8))).bind fun (c : RT0) => (cond (!c.1.1) ((g (.c59 a ([33] : List UInt8))).bind fun (d : RT0) => (cond (!d.1.1) ((g (.c84 a)).bind fun (e : RT18) => (some ((e.1.1, e.1.2.1, ()), ()))) (g (.c89 a b)))) (g (.c89 a b)))))
def Qb89 (g : Q_g) (a : GR06P) (b : RT5) : Option RT18 :=
 ((g (.c65 a b.1.1.Text)).bind fun (c : RT6) => ((g (.c88 c.1.1)).bind fun (d : RT18) => (cond (decide (b.1.1.Text = ([45] : List UInt8))) ((g (.c60 30 b.1.1 ([] : List UInt8) 12 d.1.1)).bind fun (e : RT19) => (some ((e.1.1, (GR06P.mk d.1.2.1.L d.1.2.1.I (w64 (d.1.2.1.Deep - 1)) d.1.2.1.F), ()), ()))) ((g (.c60 30 b.1.1 ([] : List UInt8) 13 d.1.1)).bind fun (f : RT19) => (some ((f.1.1, (GR06P.mk d.1.2.1.L d.1.2.1.I (w64 (d.1.2.1.Deep - 1)) d.1.2.1.F), ()), ()))))))
def Qb90 (g : Q_g) (a : Int) : Option RT27 :=
 (cond (decide (a = 1)) (some ((([([124, 124] : List UInt8)] : List (List UInt8)), ([15] : List Int), ()), ())) (cond (decide (a = 2)) (some ((([([38, 38] : List UInt8)] : List (List UInt8)), ([14] : List Int), ()), ())) (cond (decide (a = 3)) (some ((([([61, 61] : List UInt8), ([33, 61] : List UInt8)] : List (List UInt8)), ([6, 7] : List Int), ()), ())) (cond (decide (a = 4)) (some ((([([60] : List UInt8), ([60, 61] : List UInt8), ([62] : List UInt8), ([62, 61] : List UInt8)] : List (List UInt8)), ([8, 9, 10, 11] : List Int), ()), ())) (cond (decide (a = 5)) (some ((([([43] : List UInt8), ([45] : List UInt8)] : List (List UInt8)), ([1, 2] : List Int), ()), ())) (some ((([([42] : List UInt8), ([47] : List UInt8), ([37] : List UInt8)] : List (List UInt8)), ([3, 4, 5] : List Int), ()), ())))))))
def Qb91 (g : Q_g) (a : GR06P) (b : Int) : Option RT18 :=
 (cond (decide (b > 6)) ((g (.c88 a)).bind fun (c : RT18) => (some ((c.1.1, c.1.2.1, ()), ()))) ((g (.c91 a (w64 (b + 1)))).bind fun (d : RT18) => ((g (.c90 b)).bind fun (e : RT27) => g (.c92 b d.1.1 true d.1.2.1 e))))
def Qb92 (g : Q_g) (a : Int) (b : (List GApiNode)) (c : Bool) (d : GR06P) (e : RT27) : Option RT18 :=
 (cond c (g (.c93 a b false e 0 d)) (g (.c95 b d)))
def Qb93 (g : Q_g) (a : Int) (b : (List GApiNode)) (c : Bool) (d : RT27) (e : Int) (f : GR06P) : Option RT18 :=
 (cond (decide (e < (d.1.1.length : Int))) (cond (!c) ((getI d.1.1 e).bind fun h => ((d.1.1[(Int.toNat e)]?).bind fun j => ((g (.c59 f j)).bind fun (k : RT0) => (cond k.1.1 ((g (.c58 f)).bind fun (l : RT5) => ((getI d.1.1 e).bind fun m => ((d.1.1[(Int.toNat e)]?).bind fun n => ((g (.c62 f n)).bind fun (o : RT6) => ((g (.c91 o.1.1 (w64 (a + 1)))).bind fun (p : RT18) => ((getI d.1.2.1 e).bind fun q => ((d.1.2.1[(Int.toNat e)]?).bind fun s => ((g (.c75 b p.1.1)).bind fun (t : RT19) => ((g (.c60 31 l.1.1 ([] : List UInt8) s t.1.1)).bind fun (u : RT19) => g (.c93 a u.1.1 true d (w64 (e + 1)) p.1.2.1)))))))))) (g (.c93 a b c d (w64 (e + 1)) f)))))) (g (.c93 a b c d (w64 (e + 1)) f))) (g (.c94 a b c f d)))
def Qb94 (g : Q_g) (a : Int) (b : (List GApiNode)) (c : Bool) (d : GR06P) (e : RT27) : Option RT18 :=
 (cond (decide (a = 3)) (some ((b, d, ()), ())) (cond (decide (a = 4)) (some ((b, d, ()), ())) (g (.c92 a b c d e))))
def Qb95 (g : Q_g) (a : (List GApiNode)) (b : GR06P) : Option RT18 :=
 (some ((a, b, ()), ()))
def Qb96 (g : Q_g) (a : GR06P) : Option RT18 :=
 ((g (.c58 a)).bind fun (b : RT5) => ((g (.c59 a ([118, 97, 114] : List UInt8))).bind fun (c : RT0) => (cond c.1.1 ((g (.c62 a ([118, 97, 114] : List UInt8))).bind fun (d : RT6) => ((g (.c63 d.1.1 1)).bind fun (e : RT17) => ((g (.c62 e.1.2.1 ([58] : List UInt8))).bind fun (f : RT6) => ((g (.c68 f.1.1)).bind fun (h : RT18) => ((g (.c62 h.1.2.1 ([61] : List UInt8))).bind fun (j : RT6) => ((g (.c91 j.1.1 1)).bind fun (k : RT18) => ((g (.c75 h.1.1 k.1.1)).bind fun (l : RT19) => ((g (.c60 7 b.1.1 e.1.1.Text 0 l.1.1)).bind fun (m : RT19) => ((g (.c62 k.1.2.1 ([59] : List UInt8))).bind fun (n : RT6) => (some ((m.1.1, n.1.1, ()), ()))))))))))) ((g (.c59 a ([105, 102] : List UInt8))).bind fun (o : RT0) => (cond o.1.1 ((g (.c62 a ([105, 102] : List UInt8))).bind fun (p : RT6) => ((g (.c91 p.1.1 1)).bind fun (q : RT18) => ((g (.c103 q.1.2.1)).bind fun (s : RT18) => ((g (.c75 q.1.1 s.1.1)).bind fun (t : RT19) => ((g (.c59 s.1.2.1 ([101, 108, 115, 101] : List UInt8))).bind fun (u : RT0) => (cond u.1.1 ((g (.c62 s.1.2.1 ([101, 108, 115, 101] : List UInt8))).bind fun (v : RT6) => ((g (.c103 v.1.1)).bind fun (w : RT18) => ((g (.c75 t.1.1 w.1.1)).bind fun (y : RT19) => g (.c97 b w.1.2.1 y.1.1)))) (g (.c97 b s.1.2.1 t.1.1)))))))) ((g (.c59 a ([119, 104, 105, 108, 101] : List UInt8))).bind fun (z : RT0) => (cond z.1.1 ((g (.c62 a ([119, 104, 105, 108, 101] : List UInt8))).bind fun (a1 : RT6) => ((g (.c91 a1.1.1 1)).bind fun (b1 : RT18) => ((g (.c103 b1.1.2.1)).bind fun (c1 : RT18) => ((g (.c75 b1.1.1 c1.1.1)).bind fun (d1 : RT19) => ((g (.c60 10 b.1.1 ([] : List UInt8) 0 d1.1.1)).bind fun (e1 : RT19) => (some ((e1.1.1, c1.1.2.1, ()), ()))))))) ((g (.c59 a Qk7)).bind fun (f1 : RT0) => (cond f1.1.1 ((g (.c62 a Qk7)).bind fun (h1 : RT6) => ((g (.c59 h1.1.1 ([59] : List UInt8))).bind fun (j1 : RT0) => (cond (!j1.1.1) ((g (.c91 h1.1.1 1)).bind fun (k1 : RT18) => g (.c98 k1.1.1 b k1.1.2.1)) (g (.c98 ([] : List GApiNode) b h1.1.1))))) ((g (.c59 a ([112, 114, 105, 110, 116] : List UInt8))).bind fun (l1 : RT0) => (cond l1.1.1 ((g (.c62 a ([112, 114, 105, 110, 116] : List UInt8))).bind fun (m1 : RT6) => ((g (.c91 m1.1.1 1)).bind fun (n1 : RT18) => ((g (.c60 12 b.1.1 ([] : List UInt8) 0 n1.1.1)).bind fun (o1 : RT19) => ((g (.c62 n1.1.2.1 ([59] : List UInt8))).bind fun (p1 : RT6) => (some ((o1.1.1, p1.1.1, ()), ())))))) ((g (.c91 a 1)).bind fun (q1 : RT18) => ((getI q1.1.1 0).bind fun s1 => ((g (.c59 q1.1.2.1 ([61] : List UInt8))).bind fun (t1 : RT0) => (cond t1.1.1 (cond (decide (s1.Kind = 26)) (g (.c99 q1 b)) (cond (decide (s1.Kind = 28)) (g (.c99 q1 b)) (cond (decide (s1.Kind = 29)) (g (.c99 q1 b)) (g (.c102 q1 s1 b))))) (g (.c102 q1 s1 b)))))))))))))))))
def Qb97 (g : Q_g) (a : RT5) (b : GR06P) (c : (List GApiNode)) : Option RT18 :=
 ((g (.c60 9 a.1.1 ([] : List UInt8) 0 c)).bind fun (d : RT19) => (some ((d.1.1, b, ()), ())))
def Qb98 (g : Q_g) (a : (List GApiNode)) (b : RT5) (c : GR06P) : Option RT18 :=
 ((g (.c60 11 b.1.1 ([] : List UInt8) 0 a)).bind fun (d : RT19) => ((g (.c62 c ([59] : List UInt8))).bind fun (e : RT6) => (some ((d.1.1, e.1.1, ()), ()))))
def Qb99 (g : Q_g) (a : RT18) (b : RT5) : Option RT18 :=
 ((g (.c62 a.1.2.1 ([61] : List UInt8))).bind fun (c : RT6) => ((g (.c91 c.1.1 1)).bind fun (d : RT18) => ((g (.c75 a.1.1 d.1.1)).bind fun (e : RT19) => ((g (.c60 8 b.1.1 ([] : List UInt8) 0 e.1.1)).bind fun (f : RT19) => ((g (.c62 d.1.2.1 ([59] : List UInt8))).bind fun (h : RT6) => (some ((f.1.1, h.1.1, ()), ())))))))
def Qb100 (g : Q_g) (a : RT18) (b : RT5) : Option RT18 :=
 ((g (.c61 a.1.2.1 5)).bind fun (c : RT6) => g (.c101 a c.1.1 b))
def Qb101 (g : Q_g) (a : RT18) (b : GR06P) (c : RT5) : Option RT18 :=
 ((g (.c60 13 c.1.1 ([] : List UInt8) 0 a.1.1)).bind fun (d : RT19) => ((g (.c62 b ([59] : List UInt8))).bind fun (e : RT6) => (some ((d.1.1, e.1.1, ()), ()))))
def Qb102 (g : Q_g) (a : RT18) (b : GApiNode) (c : RT5) : Option RT18 :=
 ((g (.c59 a.1.2.1 ([61] : List UInt8))).bind fun (d : RT0) => (cond d.1.1 (g (.c100 a c)) ((g (.c59 a.1.2.1 ([59] : List UInt8))).bind fun (e : RT0) => (cond e.1.1 (cond (!(decide (b.Kind = 27))) (g (.c100 a c)) (g (.c101 a a.1.2.1 c))) (g (.c101 a a.1.2.1 c))))))
def Qb103 (g : Q_g) (a : GR06P) : Option RT18 :=
 ((g (.c58 a)).bind fun (b : RT5) => ((g (.c65 a ([123] : List UInt8))).bind fun (c : RT6) => g (.c104 c.1.1 b ([] : List GApiNode))))
def Qb104 (g : Q_g) (a : GR06P) (b : RT5) (c : (List GApiNode)) : Option RT18 :=
 ((g (.c57 a)).bind fun (d : RT0) => (cond (!d.1.1) ((g (.c59 a ([125] : List UInt8))).bind fun (e : RT0) => (cond (!e.1.1) ((g (.c96 a)).bind fun (f : RT18) => ((appD 56 c f.1.1).bind fun h => g (.c104 f.1.2.1 b h))) (g (.c105 a b c)))) (g (.c105 a b c))))
def Qb105 (g : Q_g) (a : GR06P) (b : RT5) (c : (List GApiNode)) : Option RT18 :=
 ((g (.c60 6 b.1.1 ([] : List UInt8) 0 c)).bind fun (d : RT19) => ((g (.c67 a ([125] : List UInt8))).bind fun (e : RT6) => (some ((d.1.1, e.1.1, ()), ()))))
def Qb106 (g : Q_g) (a : GR06P) : Option RT18 :=
 ((g (.c58 a)).bind fun (b : RT5) => ((g (.c62 a ([102, 110] : List UInt8))).bind fun (c : RT6) => ((g (.c63 c.1.1 1)).bind fun (d : RT17) => ((g (.c65 d.1.2.1 ([40] : List UInt8))).bind fun (e : RT6) => g (.c107 0 e.1.1 b d ([] : List GApiNode))))))
def Qb107 (g : Q_g) (a : Int) (b : GR06P) (c : RT5) (d : RT17) (e : (List GApiNode)) : Option RT18 :=
 ((g (.c57 b)).bind fun (f : RT0) => (cond (!f.1.1) ((g (.c59 b ([41] : List UInt8))).bind fun (h : RT0) => (cond (!h.1.1) (cond (decide (a > 0)) ((g (.c62 b ([44] : List UInt8))).bind fun (j : RT6) => g (.c108 a j.1.1 c d e)) (g (.c108 a b c d e))) (g (.c109 a b c d e)))) (g (.c109 a b c d e))))
def Qb108 (g : Q_g) (a : Int) (b : GR06P) (c : RT5) (d : RT17) (e : (List GApiNode)) : Option RT18 :=
 ((g (.c71 b 5)).bind fun (f : RT18) => ((appD 56 e f.1.1).bind fun h => g (.c107 (w64 (a + 1)) f.1.2.1 c d h)))
def Qb109 (g : Q_g) (a : Int) (b : GR06P) (c : RT5) (d : RT17) (e : (List GApiNode)) : Option RT18 :=
 ((g (.c67 b ([41] : List UInt8))).bind fun (f : RT6) => ((g (.c59 f.1.1 ([58] : List UInt8))).bind fun (h : RT0) => (cond h.1.1 ((g (.c62 f.1.1 ([58] : List UInt8))).bind fun (j : RT6) => ((g (.c68 j.1.1)).bind fun (k : RT18) => g (.c110 a k.1.2.1 c d e k.1.1))) (g (.c110 a f.1.1 c d e ([(GApiNode.mk 14 0 0 0 0 ([] : List UInt8))] : List GApiNode))))))
def Qb110 (g : Q_g) (a : Int) (b : GR06P) (c : RT5) (d : RT17) (e : (List GApiNode)) (f : (List GApiNode)) : Option RT18 :=
 ((g (.c103 b)).bind fun (h : RT18) => ((g (.c75 e f)).bind fun (j : RT19) => ((g (.c75 j.1.1 h.1.1)).bind fun (k : RT19) => ((g (.c60 4 c.1.1 d.1.1.Text a k.1.1)).bind fun (l : RT19) => (some ((l.1.1, h.1.2.1, ()), ()))))))
def Qb111 (g : Q_g) (a : GR06P) : Option RT18 :=
 g (.c112 a ([] : List GApiNode))
def Qb112 (g : Q_g) (a : GR06P) (b : (List GApiNode)) : Option RT18 :=
 ((g (.c57 a)).bind fun (c : RT0) => (cond (!c.1.1) ((g (.c58 a)).bind fun (d : RT5) => (cond (!(decide (d.1.1.Kind = 8))) ((g (.c59 a ([114, 101, 99] : List UInt8))).bind fun (e : RT0) => (cond e.1.1 ((g (.c72 a)).bind fun (f : RT18) => g (.c113 f.1.2.1 b f.1.1)) ((g (.c59 a ([102, 110] : List UInt8))).bind fun (h : RT0) => (cond h.1.1 ((g (.c106 a)).bind fun (j : RT18) => g (.c113 j.1.2.1 b j.1.1)) ((g (.c61 a 5)).bind fun (k : RT6) => g (.c113 k.1.1 b ([] : List GApiNode))))))) (g (.c114 a b)))) (g (.c114 a b))))
def Qb113 (g : Q_g) (a : GR06P) (b : (List GApiNode)) (c : (List GApiNode)) : Option RT18 :=
 ((appD 56 b c).bind fun d => g (.c112 a d))
def Qb114 (g : Q_g) (a : GR06P) (b : (List GApiNode)) : Option RT18 :=
 ((g (.c60 1 (GApiToken.mk 0 1 1 0 ([] : List UInt8)) ([] : List UInt8) 0 b)).bind fun (c : RT19) => (some ((c.1.1, a, ()), ())))
def Qb115 (g : Q_g) (a : (List GApiNode)) (b : GR06P) : Option RT33 :=
 ((g (.c58 b)).bind fun (c : RT5) => (cond (!(decide (c.1.1.Kind = 8))) ((g (.c61 b 5)).bind fun (d : RT6) => g (.c116 a d.1.1)) (g (.c116 a b))))
def Qb116 (g : Q_g) (a : (List GApiNode)) (b : GR06P) : Option RT33 :=
 ((g (.c57 b)).bind fun (c : RT0) => (cond c.1.1 (some ((([] : List GApiNode), b.F, ()), ())) (some ((a, (GApiFault.mk 0 0 0), ()), ()))))
def Qb117 (g : Q_g) (a : (List UInt8)) : Option RT33 :=
 ((g (.c54 a)).bind fun (b : RT32) => (cond (!(decide (b.1.2.1.Code = 0))) (some ((([] : List GApiNode), b.1.2.1, ()), ())) ((g (.c111 (GR06P.mk b.1.1 0 0 (GApiFault.mk 0 0 0)))).bind fun (c : RT18) => ((g (.c115 c.1.1 c.1.2.1)).bind fun (d : RT33) => (some ((d.1.1, d.1.2.1, ()), ()))))))
def Qb118 (g : Q_g) (a : (List GApiNode)) (b : Int) : Option RT2 :=
 (cond (decide (b ≥ (a.length : Int))) (some (((-1), ()), ())) ((getI a b).bind fun c => (cond (decide (c.Size < 0)) (some (((-1), ()), ())) ((getI a b).bind fun d => (cond (decide (d.Size > (w64 ((w64 ((a.length : Int) - 1)) - b)))) (some (((-1), ()), ())) ((getI a b).bind fun e => g (.c119 a b e (w64 (b + 1)))))))))
def Qb119 (g : Q_g) (a : (List GApiNode)) (b : Int) (c : GApiNode) (d : Int) : Option RT2 :=
 (cond (decide (d ≥ 0)) (cond (decide (d < (w64 ((w64 (b + 1)) + c.Size)))) ((g (.c118 a d)).bind fun (e : RT2) => g (.c119 a b c e.1.1)) (g (.c120 b c d))) (g (.c120 b c d)))
def Qb120 (g : Q_g) (a : Int) (b : GApiNode) (c : Int) : Option RT2 :=
 (cond (!(decide (c = (w64 ((w64 (a + 1)) + b.Size))))) (some (((-1), ()), ())) (some (((w64 ((w64 (a + 1)) + b.Size)), ()), ())))
def Qb121 (g : Q_g) (a : (List GApiNode)) : Option RT0 :=
 (cond (decide ((a.length : Int) > 0)) ((g (.c118 a 0)).bind fun (b : RT2) => (some (((decide (b.1.1 = (a.length : Int))), ()), ()))) (some ((false, ()), ())))
def Qb122 (g : Q_g) (a : (List UInt8)) (b : Int) : Option RT0 :=
 (cond (decide ((a.length : Int) = 0)) (some ((false, ()), ())) ((getI a 0).bind fun c => (cond (decide ((c.toNat : Int) ≥ 48)) ((getI a 0).bind fun d => (cond (decide ((d.toNat : Int) ≤ 57)) (some ((false, ()), ())) (g (.c123 a b)))) (g (.c123 a b)))))
def Qb123 (g : Q_g) (a : (List UInt8)) (b : Int) : Option RT0 :=
 ((g (.c48 a 0)).bind fun (c : RT20) => (cond (decide (c.1.2.2.1 = 0)) (cond (decide (c.1.2.1 = (a.length : Int))) (some (((decide (c.1.1.Kind = b)), ()), ())) (some ((false, ()), ()))) (some ((false, ()), ()))))
def Qb124 (g : Q_g) (a : (List UInt8)) : Option RT0 :=
 ((g (.c122 a 2)).bind fun (b : RT0) => (some ((b.1.1, ()), ())))
def Qb125 (g : Q_g) (a : (List UInt8)) : Option RT0 :=
 ((g (.c122 a 1)).bind fun (b : RT0) => (some ((b.1.1, ()), ())))
def Qb126 (g : Q_g) (a : GApiNode) : Option RT0 :=
 (cond (decide (a.Kind = 2)) (g (.c127 a)) (cond (decide (a.Kind = 19)) (g (.c127 a)) (cond (decide (a.Kind = 3)) (g (.c128 a)) (cond (decide (a.Kind = 5)) (g (.c128 a)) (cond (decide (a.Kind = 7)) (g (.c128 a)) (cond (decide (a.Kind = 26)) (g (.c128 a)) (cond (decide (a.Kind = 27)) (g (.c128 a)) (cond (decide (a.Kind = 29)) (g (.c128 a)) (cond (decide (a.Kind = 4)) ((g (.c125 a.Text)).bind fun (b : RT0) => (some ((b.1.1, ()), ()))) (cond (decide (a.Kind = 23)) (some (((decide (a.Num = 0)), ()), ())) (cond (!(decide (a.Text = ([] : List UInt8)))) (some ((false, ()), ())) (cond (decide (a.Kind = 21)) (some (((decide (a.Num ≥ 0)), ()), ())) (cond (decide (a.Kind = 22)) (cond (decide (a.Num ≥ 0)) (some (((decide (a.Num < 8388608)), ()), ())) (some ((false, ()), ()))) (cond (decide (a.Kind = 24)) (cond (decide (a.Num = 0)) (some ((true, ()), ())) (some (((decide (a.Num = 1)), ()), ()))) (cond (decide (a.Kind = 30)) (cond (decide (a.Num = 12)) (some ((true, ()), ())) (some (((decide (a.Num = 13)), ()), ()))) (cond (decide (a.Kind = 31)) (cond (decide (a.Num ≥ 1)) (cond (decide (a.Num ≤ 11)) (some ((true, ()), ())) (cond (decide (a.Num = 14)) (some ((true, ()), ())) (some (((decide (a.Num = 15)), ()), ())))) (cond (decide (a.Num = 14)) (some ((true, ()), ())) (some (((decide (a.Num = 15)), ()), ())))) (some (((decide (a.Num = 0)), ()), ()))))))))))))))))))
def Qb127 (g : Q_g) (a : GApiNode) : Option RT0 :=
 ((g (.c124 a.Text)).bind fun (b : RT0) => (cond b.1.1 (some (((decide (a.Num = 0)), ()), ())) (some ((false, ()), ()))))
def Qb128 (g : Q_g) (a : GApiNode) : Option RT0 :=
 ((g (.c125 a.Text)).bind fun (b : RT0) => (cond b.1.1 (some (((decide (a.Num = 0)), ()), ())) (some ((false, ()), ()))))
def Qb129 (g : Q_g) (a : (List GApiNode)) (b : Int) : Option RT3 :=
 g (.c130 a b (w64 (b + 1)) ([] : List Int))
def Qb130 (g : Q_g) (a : (List GApiNode)) (b : Int) (c : Int) (d : (List Int)) : Option RT3 :=
 ((getI a b).bind fun e => (cond (decide (c < (w64 ((w64 (b + 1)) + e.Size)))) ((appD 8 d ([c] : List Int)).bind fun f => ((getI a c).bind fun h => g (.c130 a b (w64 ((w64 (c + 1)) + h.Size)) f))) (g (.c131 d))))
def Qb131 (g : Q_g) (a : (List Int)) : Option RT3 :=
 (some ((a, ()), ()))
def Qb132 (g : Q_g) (a : GApiNode) : Option RT2 :=
 (cond (decide (a.Kind = 14)) (some ((48, ()), ())) (cond (decide (a.Kind ≥ 15)) (cond (decide (a.Kind ≤ 20)) (some ((116, ()), ())) (g (.c135 a))) (g (.c135 a))))
def Qb133 (g : Q_g) (a : GApiNode) : Option RT2 :=
 (cond (decide (a.Kind = 6)) (some ((98, ()), ())) (cond (decide (a.Kind = 5)) (some ((112, ()), ())) (cond (decide (a.Kind = 3)) (some ((102, ()), ())) (cond (decide (a.Kind = 2)) (some ((100, ()), ())) (cond (decide (a.Kind = 4)) (some ((100, ()), ())) (g (.c136)))))))
def Qb134 (g : Q_g) (a : GApiNode) : Option RT2 :=
 (cond (decide (a.Kind ≥ 7)) (cond (decide (a.Kind ≤ 13)) (some ((115, ()), ())) (g (.c133 a))) (g (.c133 a)))
def Qb135 (g : Q_g) (a : GApiNode) : Option RT2 :=
 (cond (decide (a.Kind ≥ 21)) (cond (decide (a.Kind ≤ 32)) (some ((101, ()), ())) (g (.c134 a))) (g (.c134 a)))
def Qb136 (g : Q_g)  : Option RT2 :=
 (some ((45, ()), ()))
def Qb137 (g : Q_g) (a : (List UInt8)) (b : Int) : Option RT0 :=
 g (.c138 a b 0)
def Qb138 (g : Q_g) (a : (List UInt8)) (b : Int) (c : Int) : Option RT0 :=
 (cond (decide (c < (a.length : Int))) ((getI a c).bind fun d => (cond (!(decide ((d.toNat : Int) = b))) (some ((false, ()), ())) (g (.c138 a b (w64 (c + 1)))))) (g (.c139)))
def Qb139 (g : Q_g)  : Option RT0 :=
 (some ((true, ()), ()))
def Qb140 (g : Q_g) (a : (List GApiNode)) (b : Int) : Option RT0 :=
 ((g (.c129 a b)).bind fun (c : RT3) => g (.c141 a b c 0 ([] : List Int)))
def Qb141 (g : Q_g) (a : (List GApiNode)) (b : Int) (c : RT3) (d : Int) (e : (List Int)) : Option RT0 :=
 (cond (decide (d < (c.1.1.length : Int))) ((getI c.1.1 d).bind fun f => ((c.1.1[(Int.toNat d)]?).bind fun h => ((getI a h).bind fun j => ((g (.c132 j)).bind fun (k : RT2) => ((appD 1 e ([k.1.1] : List Int)).bind fun l => g (.c141 a b c (w64 (d + 1)) l)))))) (g (.c142 a b c e)))
def Qb142 (g : Q_g) (a : (List GApiNode)) (b : Int) (c : RT3) (d : (List Int)) : Option RT0 :=
 ((bytesO d).bind fun _ => (cond (decide ((c.1.1.length : Int) > 0)) ((getI c.1.1 0).bind fun e => ((c.1.1[(Int.toNat 0)]?).bind fun f => ((getI a f).bind fun h => g (.c143 a b d h)))) (g (.c143 a b d (GApiNode.mk 0 0 0 0 0 ([] : List UInt8))))))
def Qb143 (g : Q_g) (a : (List GApiNode)) (b : Int) (c : (List Int)) (d : GApiNode) : Option RT0 :=
 ((getI a b).bind fun e => (cond (decide (e.Kind = 1)) (cond (decide (b = 0)) ((g (.c137 (bytesS c) 100)).bind fun (f : RT0) => (some ((f.1.1, ()), ()))) (some ((false, ()), ()))) (cond (decide (e.Kind = 2)) ((g (.c137 (bytesS c) 102)).bind fun (h : RT0) => (some ((h.1.1, ()), ()))) (cond (decide (e.Kind = 3)) (some (((decide ((bytesS c) = ([116] : List UInt8))), ()), ())) (cond (decide (e.Kind = 5)) (some (((decide ((bytesS c) = ([116] : List UInt8))), ()), ())) (cond (decide (e.Kind = 20)) (some (((decide ((bytesS c) = ([116] : List UInt8))), ()), ())) (cond (decide (e.Kind = 4)) (cond (decide (((bytesS c).length : Int) ≥ 2)) ((getI a b).bind fun j => (cond (decide ((w64 (((bytesS c).length : Int) - 2)) = j.Num)) ((okP (CutR (0 : Int) (w64 (((bytesS c).length : Int) - 2)) ((bytesS c).length : Int))).bind fun _ => ((g (.c137 (cutL (bytesS c) (0 : Int) (w64 (((bytesS c).length : Int) - 2))) 112)).bind fun (k : RT0) => (cond k.1.1 ((getI (bytesS c) (w64 (((bytesS c).length : Int) - 2))).bind fun l => (cond (decide ((l.toNat : Int) = 116)) ((getI (bytesS c) (w64 (((bytesS c).length : Int) - 1))).bind fun m => (some (((decide ((m.toNat : Int) = 98)), ()), ()))) ((getI (bytesS c) (w64 (((bytesS c).length : Int) - 2))).bind fun n => (cond (decide ((n.toNat : Int) = 48)) ((getI (bytesS c) (w64 (((bytesS c).length : Int) - 1))).bind fun m => (some (((decide ((m.toNat : Int) = 98)), ()), ()))) (some ((false, ()), ())))))) (some ((false, ()), ()))))) (some ((false, ()), ())))) (some ((false, ()), ()))) (cond (decide (e.Kind = 6)) ((g (.c137 (bytesS c) 115)).bind fun (o : RT0) => (some ((o.1.1, ()), ()))) (cond (decide (e.Kind = 7)) (some (((decide ((bytesS c) = ([116, 101] : List UInt8))), ()), ())) (cond (decide (e.Kind = 8)) (cond (decide ((bytesS c) = ([101, 101] : List UInt8))) (cond (decide (d.Kind = 26)) (some ((true, ()), ())) (cond (decide (d.Kind = 28)) (some ((true, ()), ())) (some (((decide (d.Kind = 29)), ()), ())))) (some ((false, ()), ()))) (cond (decide (e.Kind = 9)) (cond (decide ((bytesS c) = ([101, 98] : List UInt8))) (some ((true, ()), ())) (some (((decide ((bytesS c) = ([101, 98, 98] : List UInt8))), ()), ()))) (cond (decide (e.Kind = 10)) (some (((decide ((bytesS c) = ([101, 98] : List UInt8))), ()), ())) (cond (decide (e.Kind = 11)) (cond (decide ((bytesS c) = ([] : List UInt8))) (some ((true, ()), ())) (some (((decide ((bytesS c) = ([101] : List UInt8))), ()), ()))) (cond (decide (e.Kind = 12)) (some (((decide ((bytesS c) = ([101] : List UInt8))), ()), ())) (cond (decide (e.Kind = 29)) (some (((decide ((bytesS c) = ([101] : List UInt8))), ()), ())) (cond (decide (e.Kind = 30)) (some (((decide ((bytesS c) = ([101] : List UInt8))), ()), ())) (cond (decide (e.Kind = 13)) (cond (decide ((bytesS c) = ([101] : List UInt8))) (some (((decide (d.Kind = 27)), ()), ())) (some ((false, ()), ()))) (cond (decide (e.Kind = 27)) ((g (.c137 (bytesS c) 101)).bind fun (p : RT0) => (some ((p.1.1, ()), ()))) (cond (decide (e.Kind = 28)) (some (((decide ((bytesS c) = ([101, 101] : List UInt8))), ()), ())) (cond (decide (e.Kind = 31)) (some (((decide ((bytesS c) = ([101, 101] : List UInt8))), ()), ())) (cond (decide (e.Kind = 32)) (cond (decide ((bytesS c) = ([116] : List UInt8))) (cond (decide (d.Kind = 19)) (some ((true, ()), ())) (cond (decide ((bytesS c) = ([116, 101] : List UInt8))) (some (((decide (d.Kind = 20)), ()), ())) (some ((false, ()), ())))) (cond (decide ((bytesS c) = ([116, 101] : List UInt8))) (some (((decide (d.Kind = 20)), ()), ())) (some ((false, ()), ())))) (cond (decide ((bytesS c) = ([] : List UInt8))) ((getI a b).bind fun q => (cond (decide (q.Kind ≥ 14)) ((getI a b).bind fun s => (some (((decide (s.Kind ≤ 26)), ()), ()))) (some ((false, ()), ())))) (some ((false, ()), ()))))))))))))))))))))))))
def Qb144 (g : Q_g) (a : (List GApiNode)) : Option RT0 :=
 ((g (.c121 a)).bind fun (b : RT0) => (cond (!b.1.1) (some ((false, ()), ())) ((getI a 0).bind fun c => (cond (!(decide (c.Kind = 1))) (some ((false, ()), ())) (g (.c145 a 0))))))
def Qb145 (g : Q_g) (a : (List GApiNode)) (b : Int) : Option RT0 :=
 (cond (decide (b < (a.length : Int))) ((getI a b).bind fun c => ((g (.c126 c)).bind fun (d : RT0) => (cond (!d.1.1) (some ((false, ()), ())) ((g (.c140 a b)).bind fun (e : RT0) => (cond (!e.1.1) (some ((false, ()), ())) (g (.c145 a (w64 (b + 1))))))))) (g (.c146)))
def Qb146 (g : Q_g)  : Option RT0 :=
 (some ((true, ()), ()))
def Qb147 (g : Q_g) (a : GR09S) : Option RT0 :=
 (some (((!(decide (a.F.Code = 0))), ()), ()))
def Qb148 (g : Q_g) (a : GR09S) (b : (List UInt8)) : Option RT2 :=
 g (.c149 b a 0)
def Qb149 (g : Q_g) (a : (List UInt8)) (b : GR09S) (c : Int) : Option RT2 :=
 (cond (decide (c < (b.P.Fns.length : Int))) ((getI b.P.Fns c).bind fun d => (cond (decide (d.Name = a)) (some ((c, ()), ())) (g (.c149 a b (w64 (c + 1)))))) (g (.c150)))
def Qb150 (g : Q_g)  : Option RT2 :=
 (some (((-1), ()), ()))
def Qb151 (g : Q_g) (a : (List GApiNode)) (b : Int) : Option RT3 :=
 ((g (.c129 a 0)).bind fun (c : RT3) => g (.c152 a b c 0 ([] : List Int)))
def Qb152 (g : Q_g) (a : (List GApiNode)) (b : Int) (c : RT3) (d : Int) (e : (List Int)) : Option RT3 :=
 (cond (decide (d < (c.1.1.length : Int))) ((getI c.1.1 d).bind fun f => ((c.1.1[(Int.toNat d)]?).bind fun h => ((getI a h).bind fun j => (cond (decide (j.Kind = b)) ((getI c.1.1 d).bind fun k => ((c.1.1[(Int.toNat d)]?).bind fun l => ((appD 8 e ([l] : List Int)).bind fun m => g (.c152 a b c (w64 (d + 1)) m)))) (g (.c152 a b c (w64 (d + 1)) e)))))) (g (.c153 e)))
def Qb153 (g : Q_g) (a : (List Int)) : Option RT3 :=
 (some ((a, ()), ()))
def Qb154 (g : Q_g) (a : (List GApiNode)) (b : (List Int)) (c : (List UInt8)) : Option RT0 :=
 g (.c155 a b c 0)
def Qb155 (g : Q_g) (a : (List GApiNode)) (b : (List Int)) (c : (List UInt8)) (d : Int) : Option RT0 :=
 (cond (decide (d < (b.length : Int))) ((getI b d).bind fun e => ((getI a e).bind fun f => (cond (decide (f.Text = c)) (some ((true, ()), ())) (g (.c155 a b c (w64 (d + 1))))))) (g (.c156)))
def Qb156 (g : Q_g)  : Option RT0 :=
 (some ((false, ()), ()))
def Qb157 (g : Q_g) (a : Int) : Option RT38 :=
 g (.c158 a 0 ([(GApiType.mk 0 0), (GApiType.mk 1 0), (GApiType.mk 2 0), (GApiType.mk 3 0), (GApiType.mk 4 0), (GApiType.mk 5 0)] : List GApiType))
def Qb158 (g : Q_g) (a : Int) (b : Int) (c : (List GApiType)) : Option RT38 :=
 (cond (decide (b < a)) (cond (decide (b < 100)) ((appD 16 c ([(GApiType.mk 6 b)] : List GApiType)).bind fun d => g (.c158 a (w64 (b + 1)) d)) (g (.c159 c))) (g (.c159 c)))
def Qb159 (g : Q_g) (a : (List GApiType)) : Option RT38 :=
 (some ((a, ()), ()))
def Qb160 (g : Q_g) (a : GR09S) (b : Int) (c : GApiMark) : Option RT30 :=
 ((appD 24 ([] : List GApiMark) a.P.Marks).bind fun d => ((getI d b).bind fun e => ((d[(Int.toNat b)]?).bind fun f => ((setN d (Int.toNat b) c).bind fun h => (some (((GR09S.mk (GApiProg.mk a.P.Nodes h a.P.Types a.P.Recs a.P.Fields a.P.Fns a.P.Slots a.P.Vars a.P.Points) a.Recs a.F), ()), ()))))))
def Qb161 (g : Q_g) (a : (List GApiType)) (b : Int) : Option RT28 :=
 ((appD 16 ([] : List GApiType) a).bind fun c => (cond (decide (b < 1)) (some ((c, 0, ()), ())) (cond (decide (b ≥ (a.length : Int))) (some ((c, 0, ()), ())) (cond (decide (b = 5)) (some ((c, 0, ()), ())) (g (.c162 a b 0 c))))))
def Qb162 (g : Q_g) (a : (List GApiType)) (b : Int) (c : Int) (d : (List GApiType)) : Option RT28 :=
 (cond (decide (c < (a.length : Int))) ((getI a c).bind fun e => (cond (decide (e.Kind = 7)) ((getI a c).bind fun f => (cond (decide (f.Of = b)) (some ((d, c, ()), ())) (g (.c162 a b (w64 (c + 1)) d)))) (g (.c162 a b (w64 (c + 1)) d)))) (g (.c163 a b d)))
def Qb163 (g : Q_g) (a : (List GApiType)) (b : Int) (c : (List GApiType)) : Option RT28 :=
 ((appD 16 c ([(GApiType.mk 7 b)] : List GApiType)).bind fun d => (some ((d, (a.length : Int), ()), ())))
def Qb164 (g : Q_g) (a : (List GApiNode)) : Option RT0 :=
 ((g (.c121 a)).bind fun (b : RT0) => (cond (!b.1.1) (some ((false, ()), ())) ((appD 56 ([(GApiNode.mk 1 0 0 (w64 ((a.length : Int) + 2)) 0 ([] : List UInt8)), (GApiNode.mk 2 0 0 (w64 ((a.length : Int) + 1)) 0 ([82] : List UInt8)), (GApiNode.mk 3 0 0 (a.length : Int) 0 ([102] : List UInt8))] : List GApiNode) a).bind fun c => ((g (.c144 c)).bind fun (d : RT0) => (some ((d.1.1, ()), ()))))))
def Qb165 (g : Q_g) (a : (List GApiType)) (b : (List (List UInt8))) (c : GApiNode) : Option RT2 :=
 (cond (decide (c.Kind < 19)) (some (((w64 ((w64 c.Kind) - 14)), ()), ())) (g (.c166 a b 0 c)))
def Qb166 (g : Q_g) (a : (List GApiType)) (b : (List (List UInt8))) (c : Int) (d : GApiNode) : Option RT2 :=
 (cond (decide (c < (b.length : Int))) ((getI b c).bind fun e => (cond (decide (e = d.Text)) (cond (decide ((w64 (c + 6)) < (a.length : Int))) ((getI a (w64 (c + 6))).bind fun f => (cond (decide (f.Kind = 6)) (some (((w64 (c + 6)), ()), ())) (some ((0, ()), ())))) (some ((0, ()), ()))) (g (.c166 a b (w64 (c + 1)) d)))) (g (.c167)))
def Qb167 (g : Q_g)  : Option RT2 :=
 (some ((0, ()), ()))
def Qb168 (g : Q_g) (a : (List GApiType)) (b : (List (List UInt8))) (c : (List GApiNode)) : Option RT28 :=
 ((appD 16 ([] : List GApiType) a).bind fun d => ((g (.c164 c)).bind fun (e : RT0) => (cond (!e.1.1) (some ((d, 0, ()), ())) ((getI c (w64 ((c.length : Int) - 1))).bind fun f => ((g (.c165 a b f)).bind fun (h : RT2) => (cond (decide (h.1.1 = 0)) (some ((d, 0, ()), ())) (g (.c169 c h.1.1 0 d))))))))
def Qb169 (g : Q_g) (a : (List GApiNode)) (b : Int) (c : Int) (d : (List GApiType)) : Option RT28 :=
 (cond (decide (c < (w64 ((a.length : Int) - 1)))) ((g (.c161 d b)).bind fun (e : RT28) => g (.c169 a e.1.2.1 (w64 (c + 1)) e.1.1)) (g (.c170 b d)))
def Qb170 (g : Q_g) (a : Int) (b : (List GApiType)) : Option RT28 :=
 (some ((b, a, ()), ()))
def Qb171 (g : Q_g) (a : GR09S) (b : Int) (c : GApiMark) : Option RT30 :=
 ((appD 24 ([] : List GApiMark) a.P.Marks).bind fun d => ((getI d b).bind fun e => ((d[(Int.toNat b)]?).bind fun f => ((setN d (Int.toNat b) c).bind fun h => (some (((GR09S.mk (GApiProg.mk a.P.Nodes h a.P.Types a.P.Recs a.P.Fields a.P.Fns a.P.Slots a.P.Vars a.P.Points) a.Recs a.F), ()), ()))))))
def Qb172 (g : Q_g) (a : GR09S) (b : Int) (c : Int) : Option RT30 :=
 ((g (.c147 a)).bind fun (d : RT0) => (cond (!d.1.1) ((getI a.P.Nodes c).bind fun e => ((getI a.P.Nodes c).bind fun f => (some (((GR09S.mk a.P a.Recs (GApiFault.mk b e.Line f.Col)), ()), ())))) (some ((a, ()), ()))))
def Qb173 (g : Q_g) (a : GR09S) (b : Int) : Option RT29 :=
 ((getI a.P.Nodes b).bind fun c => (cond (decide (c.Kind = 14)) (some ((0, a, ()), ())) ((getI a.P.Nodes b).bind fun d => (cond (decide (d.Kind = 20)) ((g (.c173 a (w64 (b + 1)))).bind fun (e : RT29) => ((g (.c147 e.1.2.1)).bind fun (f : RT0) => (cond f.1.1 (some ((0, e.1.2.1, ()), ())) ((g (.c161 e.1.2.1.P.Types e.1.1)).bind fun (h : RT28) => ((g (.c171 (GR09S.mk (GApiProg.mk e.1.2.1.P.Nodes e.1.2.1.P.Marks h.1.1 e.1.2.1.P.Recs e.1.2.1.P.Fields e.1.2.1.P.Fns e.1.2.1.P.Slots e.1.2.1.P.Vars e.1.2.1.P.Points) e.1.2.1.Recs e.1.2.1.F) b (GApiMark.mk h.1.2.1 0 0))).bind fun (j : RT30) => (some ((h.1.2.1, j.1.1, ()), ()))))))) ((okP (CutR b (w64 (b + 1)) (a.P.Nodes.length : Int))).bind fun _ => ((g (.c168 a.P.Types a.Recs (cutL a.P.Nodes b (w64 (b + 1))))).bind fun (k : RT28) => (cond (decide (k.1.2.1 = 0)) ((g (.c172 a 8 b)).bind fun (l : RT30) => (some ((0, l.1.1, ()), ()))) ((g (.c171 a b (GApiMark.mk k.1.2.1 0 0))).bind fun (m : RT30) => (some ((k.1.2.1, m.1.1, ()), ()))))))))))
def Qb174 (g : Q_g) (a : GR09S) (b : Int) (c : Int) : Option RT30 :=
 ((g (.c147 a)).bind fun (d : RT0) => (cond (!d.1.1) ((getI a.P.Nodes c).bind fun e => ((getI a.P.Nodes c).bind fun f => (some (((GR09S.mk a.P a.Recs (GApiFault.mk b e.Line f.Col)), ()), ())))) (some ((a, ()), ()))))
def Qb175 (g : Q_g) (a : GR09S) : Option RT30 :=
 ((g (.c151 a.P.Nodes 2)).bind fun (b : RT3) => g (.c176 a b 0 a))
def Qb176 (g : Q_g) (a : GR09S) (b : RT3) (c : Int) (d : GR09S) : Option RT30 :=
 (cond (decide (c < (b.1.1.length : Int))) (cond (decide (c ≥ 100)) ((getI b.1.1 c).bind fun e => ((g (.c174 d 13 e)).bind fun (f : RT30) => g (.c178 a b c f.1.1))) (g (.c178 a b c d))) (g (.c179 a b d)))
def Qb177 (g : Q_g) (a : GR09S) (b : RT3) (c : Int) (d : GR09S) : Option RT30 :=
 ((getI b.1.1 c).bind fun e => ((g (.c160 d e (GApiMark.mk 0 c 0))).bind fun (f : RT30) => ((getI b.1.1 c).bind fun h => ((getI a.P.Nodes h).bind fun j => ((appD 16 f.1.1.Recs ([j.Text] : List (List UInt8))).bind fun k => g (.c180 a b c f k))))))
def Qb178 (g : Q_g) (a : GR09S) (b : RT3) (c : Int) (d : GR09S) : Option RT30 :=
 ((okP (CutR (0 : Int) c (b.1.1.length : Int))).bind fun _ => ((getI b.1.1 c).bind fun e => ((getI a.P.Nodes e).bind fun f => ((g (.c154 a.P.Nodes (cutL b.1.1 (0 : Int) c) f.Text)).bind fun (h : RT0) => (cond h.1.1 ((getI b.1.1 c).bind fun j => ((g (.c174 d 7 j)).bind fun (k : RT30) => g (.c177 a b c k.1.1))) (g (.c177 a b c d)))))))
def Qb179 (g : Q_g) (a : GR09S) (b : RT3) (c : GR09S) : Option RT30 :=
 ((g (.c157 (b.1.1.length : Int))).bind fun (d : RT38) => g (.c181 a b 0 (GR09S.mk (GApiProg.mk c.P.Nodes c.P.Marks d.1.1 c.P.Recs c.P.Fields c.P.Fns c.P.Slots c.P.Vars c.P.Points) c.Recs c.F)))
def Qb180 (g : Q_g) (a : GR09S) (b : RT3) (c : Int) (d : RT30) (e : (List (List UInt8))) : Option RT30 :=
 g (.c176 a b (w64 (c + 1)) (GR09S.mk d.1.1.P e d.1.1.F))
def Qb181 (g : Q_g) (a : GR09S) (b : RT3) (c : Int) (d : GR09S) : Option RT30 :=
 (cond (decide (c < (b.1.1.length : Int))) ((getI b.1.1 c).bind fun e => ((g (.c129 a.P.Nodes e)).bind fun (f : RT3) => g (.c182 a b c f (d.P.Fields.length : Int) c 0 d))) (g (.c183 d)))
def Qb182 (g : Q_g) (a : GR09S) (b : RT3) (c : Int) (d : RT3) (e : Int) (f : Int) (h : Int) (j : GR09S) : Option RT30 :=
 (cond (decide (h < (d.1.1.length : Int))) (cond (decide (h ≥ 100)) ((getI d.1.1 h).bind fun k => ((g (.c172 j 13 k)).bind fun (l : RT30) => g (.c185 a b c d e h f l.1.1))) (g (.c185 a b c d e h f j))) (g (.c186 a b c d e f j)))
def Qb183 (g : Q_g) (a : GR09S) : Option RT30 :=
 (some ((a, ()), ()))
def Qb184 (g : Q_g) (a : GR09S) (b : RT3) (c : Int) (d : RT3) (e : Int) (f : Int) (h : Int) (j : GR09S) : Option RT30 :=
 ((g (.c147 j)).bind fun (k : RT0) => (cond k.1.1 (some ((j, ()), ())) ((getI d.1.1 f).bind fun l => ((g (.c173 j (w64 (l + 1)))).bind fun (m : RT29) => ((getI d.1.1 f).bind fun n => ((g (.c171 m.1.2.1 n (GApiMark.mk m.1.1 0 0))).bind fun (o : RT30) => ((getI d.1.1 f).bind fun p => ((getI a.P.Nodes p).bind fun q => ((appD 24 o.1.1.P.Fields ([(GApiField.mk q.Text m.1.1)] : List GApiField)).bind fun s => g (.c187 a b c d e h f o s))))))))))
def Qb185 (g : Q_g) (a : GR09S) (b : RT3) (c : Int) (d : RT3) (e : Int) (f : Int) (h : Int) (j : GR09S) : Option RT30 :=
 ((okP (CutR (0 : Int) f (d.1.1.length : Int))).bind fun _ => ((getI d.1.1 f).bind fun k => ((getI a.P.Nodes k).bind fun l => ((g (.c154 a.P.Nodes (cutL d.1.1 (0 : Int) f) l.Text)).bind fun (m : RT0) => (cond m.1.1 ((getI d.1.1 f).bind fun n => ((g (.c172 j 7 n)).bind fun (o : RT30) => g (.c184 a b c d e f h o.1.1))) (g (.c184 a b c d e f h j)))))))
def Qb186 (g : Q_g) (a : GR09S) (b : RT3) (c : Int) (d : RT3) (e : Int) (f : Int) (h : GR09S) : Option RT30 :=
 ((getI b.1.1 c).bind fun j => ((getI a.P.Nodes j).bind fun k => ((appD 32 h.P.Recs ([(GApiRec.mk k.Text e (d.1.1.length : Int))] : List GApiRec)).bind fun l => g (.c188 a b f h l))))
def Qb187 (g : Q_g) (a : GR09S) (b : RT3) (c : Int) (d : RT3) (e : Int) (f : Int) (h : Int) (j : RT30) (k : (List GApiField)) : Option RT30 :=
 g (.c182 a b c d e f (w64 (h + 1)) (GR09S.mk (GApiProg.mk j.1.1.P.Nodes j.1.1.P.Marks j.1.1.P.Types j.1.1.P.Recs k j.1.1.P.Fns j.1.1.P.Slots j.1.1.P.Vars j.1.1.P.Points) j.1.1.Recs j.1.1.F))
def Qb188 (g : Q_g) (a : GR09S) (b : RT3) (c : Int) (d : GR09S) (e : (List GApiRec)) : Option RT30 :=
 g (.c181 a b (w64 (c + 1)) (GR09S.mk (GApiProg.mk d.P.Nodes d.P.Marks d.P.Types e d.P.Fields d.P.Fns d.P.Slots d.P.Vars d.P.Points) d.Recs d.F))
def Qb189 (g : Q_g) (a : (List UInt8)) : Option RT2 :=
 g (.c190 a 0)
def Qb190 (g : Q_g) (a : (List UInt8)) (b : Int) : Option RT2 :=
 (cond (decide (b < (Qk3.length : Int))) ((getI Qk3 b).bind fun c => ((Qk3[(Int.toNat b)]?).bind fun d => (cond (decide (d = a)) (some ((b, ()), ())) (g (.c190 a (w64 (b + 1))))))) (g (.c191)))
def Qb191 (g : Q_g)  : Option RT2 :=
 (some ((0, ()), ()))
def Qb192 (g : Q_g) (a : GR09S) (b : Int) (c : GApiMark) : Option RT30 :=
 ((appD 24 ([] : List GApiMark) a.P.Marks).bind fun d => ((getI d b).bind fun e => ((d[(Int.toNat b)]?).bind fun f => ((setN d (Int.toNat b) c).bind fun h => (some (((GR09S.mk (GApiProg.mk a.P.Nodes h a.P.Types a.P.Recs a.P.Fields a.P.Fns a.P.Slots a.P.Vars a.P.Points) a.Recs a.F), ()), ()))))))
def Qb193 (g : Q_g) (a : GR09S) (b : Int) (c : Int) : Option RT30 :=
 ((g (.c147 a)).bind fun (d : RT0) => (cond (!d.1.1) ((getI a.P.Nodes c).bind fun e => ((getI a.P.Nodes c).bind fun f => (some (((GR09S.mk a.P a.Recs (GApiFault.mk b e.Line f.Col)), ()), ())))) (some ((a, ()), ()))))
def Qb194 (g : Q_g) (a : GR09S) (b : Int) : Option RT29 :=
 ((getI a.P.Nodes b).bind fun c => (cond (decide (c.Kind = 14)) (some ((0, a, ()), ())) ((getI a.P.Nodes b).bind fun d => (cond (decide (d.Kind = 20)) ((g (.c194 a (w64 (b + 1)))).bind fun (e : RT29) => ((g (.c147 e.1.2.1)).bind fun (f : RT0) => (cond f.1.1 (some ((0, e.1.2.1, ()), ())) ((g (.c161 e.1.2.1.P.Types e.1.1)).bind fun (h : RT28) => ((g (.c192 (GR09S.mk (GApiProg.mk e.1.2.1.P.Nodes e.1.2.1.P.Marks h.1.1 e.1.2.1.P.Recs e.1.2.1.P.Fields e.1.2.1.P.Fns e.1.2.1.P.Slots e.1.2.1.P.Vars e.1.2.1.P.Points) e.1.2.1.Recs e.1.2.1.F) b (GApiMark.mk h.1.2.1 0 0))).bind fun (j : RT30) => (some ((h.1.2.1, j.1.1, ()), ()))))))) ((okP (CutR b (w64 (b + 1)) (a.P.Nodes.length : Int))).bind fun _ => ((g (.c168 a.P.Types a.Recs (cutL a.P.Nodes b (w64 (b + 1))))).bind fun (k : RT28) => (cond (decide (k.1.2.1 = 0)) ((g (.c193 a 8 b)).bind fun (l : RT30) => (some ((0, l.1.1, ()), ()))) ((g (.c192 a b (GApiMark.mk k.1.2.1 0 0))).bind fun (m : RT30) => (some ((k.1.2.1, m.1.1, ()), ()))))))))))
def Qb195 (g : Q_g) (a : GR09S) : Option RT30 :=
 ((g (.c151 a.P.Nodes 4)).bind fun (b : RT3) => g (.c196 a b 0 a))
def Qb196 (g : Q_g) (a : GR09S) (b : RT3) (c : Int) (d : GR09S) : Option RT30 :=
 (cond (decide (c < (b.1.1.length : Int))) ((getI b.1.1 c).bind fun e => (cond (decide (c ≥ 100)) ((g (.c193 d 13 e)).bind fun (f : RT30) => g (.c206 a b c e f.1.1)) (g (.c206 a b c e d)))) (g (.c199 d)))
def Qb197 (g : Q_g) (a : GR09S) (b : RT3) (c : Int) (d : Int) (e : RT3) (f : Int) (h : Int) (j : GR09S) : Option RT30 :=
 (cond (decide (f < (w64 ((e.1.1.length : Int) - 2)))) (cond (decide (f ≥ 20)) ((getI e.1.1 f).bind fun k => ((g (.c193 j 13 k)).bind fun (l : RT30) => g (.c201 a b c d e f h l.1.1))) (g (.c201 a b c d e f h j))) (g (.c202 a b c d e h j)))
def Qb198 (g : Q_g) (a : GR09S) (b : RT3) (c : Int) (d : Int) (e : Int) (f : GR09S) : Option RT30 :=
 ((g (.c193 f 7 d)).bind fun (h : RT30) => g (.c203 a b c d e h.1.1))
def Qb199 (g : Q_g) (a : GR09S) : Option RT30 :=
 (some ((a, ()), ()))
def Qb200 (g : Q_g) (a : GR09S) (b : RT3) (c : Int) (d : Int) (e : RT3) (f : Int) (h : Int) (j : GR09S) : Option RT30 :=
 ((g (.c147 j)).bind fun (k : RT0) => (cond k.1.1 (some ((j, ()), ())) ((getI e.1.1 f).bind fun l => ((g (.c194 j (w64 (l + 1)))).bind fun (m : RT29) => ((getI e.1.1 f).bind fun n => ((g (.c192 m.1.2.1 n (GApiMark.mk m.1.1 0 0))).bind fun (o : RT30) => g (.c204 a b c d e f h o)))))))
def Qb201 (g : Q_g) (a : GR09S) (b : RT3) (c : Int) (d : Int) (e : RT3) (f : Int) (h : Int) (j : GR09S) : Option RT30 :=
 ((okP (CutR (0 : Int) f (e.1.1.length : Int))).bind fun _ => ((getI e.1.1 f).bind fun k => ((getI a.P.Nodes k).bind fun l => ((g (.c154 a.P.Nodes (cutL e.1.1 (0 : Int) f) l.Text)).bind fun (m : RT0) => (cond m.1.1 ((getI e.1.1 f).bind fun n => ((g (.c193 j 7 n)).bind fun (o : RT30) => g (.c200 a b c d e f h o.1.1))) (g (.c200 a b c d e f h j)))))))
def Qb202 (g : Q_g) (a : GR09S) (b : RT3) (c : Int) (d : Int) (e : RT3) (f : Int) (h : GR09S) : Option RT30 :=
 ((g (.c147 h)).bind fun (j : RT0) => (cond j.1.1 (some ((h, ()), ())) ((getI e.1.1 (w64 ((e.1.1.length : Int) - 2))).bind fun k => ((g (.c194 h k)).bind fun (l : RT29) => ((g (.c192 l.1.2.1 d (GApiMark.mk l.1.1 c 0))).bind fun (m : RT30) => ((getI a.P.Nodes d).bind fun n => ((appD 72 m.1.1.P.Fns ([(GApiFn.mk n.Text d (w64 ((e.1.1.length : Int) - 2)) l.1.1 0 0 0 0)] : List GApiFn)).bind fun o => g (.c205 a b f m o))))))))
def Qb203 (g : Q_g) (a : GR09S) (b : RT3) (c : Int) (d : Int) (e : Int) (f : GR09S) : Option RT30 :=
 ((g (.c129 a.P.Nodes d)).bind fun (h : RT3) => g (.c197 a b c d h 0 e f))
def Qb204 (g : Q_g) (a : GR09S) (b : RT3) (c : Int) (d : Int) (e : RT3) (f : Int) (h : Int) (j : RT30) : Option RT30 :=
 g (.c197 a b c d e (w64 (f + 1)) h j.1.1)
def Qb205 (g : Q_g) (a : GR09S) (b : RT3) (c : Int) (d : RT30) (e : (List GApiFn)) : Option RT30 :=
 g (.c196 a b (w64 (c + 1)) (GR09S.mk (GApiProg.mk d.1.1.P.Nodes d.1.1.P.Marks d.1.1.P.Types d.1.1.P.Recs d.1.1.P.Fields e d.1.1.P.Slots d.1.1.P.Vars d.1.1.P.Points) d.1.1.Recs d.1.1.F))
def Qb206 (g : Q_g) (a : GR09S) (b : RT3) (c : Int) (d : Int) (e : GR09S) : Option RT30 :=
 ((okP (CutR (0 : Int) c (b.1.1.length : Int))).bind fun _ => ((getI a.P.Nodes d).bind fun f => ((g (.c154 a.P.Nodes (cutL b.1.1 (0 : Int) c) f.Text)).bind fun (h : RT0) => (cond h.1.1 (g (.c198 a b c d c e)) ((getI a.P.Nodes d).bind fun j => ((g (.c189 j.Text)).bind fun (k : RT2) => (cond (decide (k.1.1 > 0)) (g (.c198 a b c d c e)) (g (.c203 a b c d c e)))))))))
def Qb207 (g : Q_g) (a : GR09S) (b : Int) (c : (List GR09Env)) (d : (List UInt8)) (e : Int) (f : Int) (h : Int) : Option RT31 :=
 ((getI a.P.Fns b).bind fun j => ((appD 40 ([] : List GR09Env) c).bind fun k => ((appD 40 k ([(GR09Env.mk d j.Slots f (a.P.Vars.length : Int))] : List GR09Env)).bind fun l => ((appD 48 a.P.Vars ([(GApiVar.mk b d j.Slots h 0)] : List GApiVar)).bind fun m => ((appD 8 a.P.Slots ([e] : List Int)).bind fun n => ((appD 72 ([] : List GApiFn) a.P.Fns).bind fun o => ((getI o b).bind fun p => ((o[(Int.toNat b)]?).bind fun q => ((o[(Int.toNat b)]?).bind fun s => ((setN o (Int.toNat b) (GApiFn.mk s.Name s.Node s.Params s.Result s.At (w64 (j.Slots + 1)) s.First s.Points)).bind fun t => (some ((l, (GR09S.mk (GApiProg.mk a.P.Nodes a.P.Marks a.P.Types a.P.Recs a.P.Fields t n m a.P.Points) a.Recs a.F), ()), ()))))))))))))
def Qb208 (g : Q_g) (a : GR09S) (b : Int) (c : Int) : Option RT30 :=
 ((g (.c147 a)).bind fun (d : RT0) => (cond (!d.1.1) ((getI a.P.Nodes c).bind fun e => ((getI a.P.Nodes c).bind fun f => (some (((GR09S.mk a.P a.Recs (GApiFault.mk b e.Line f.Col)), ()), ())))) (some ((a, ()), ()))))
def Qb209 (g : Q_g) (a : GR09S) (b : Int) (c : GApiMark) : Option RT30 :=
 ((appD 24 ([] : List GApiMark) a.P.Marks).bind fun d => ((getI d b).bind fun e => ((d[(Int.toNat b)]?).bind fun f => ((setN d (Int.toNat b) c).bind fun h => (some (((GR09S.mk (GApiProg.mk a.P.Nodes h a.P.Types a.P.Recs a.P.Fields a.P.Fns a.P.Slots a.P.Vars a.P.Points) a.Recs a.F), ()), ()))))))
def Qb210 (g : Q_g) (a : GR09S) (b : Int) : Option RT29 :=
 ((getI a.P.Nodes b).bind fun c => (cond (decide (c.Kind = 14)) (some ((0, a, ()), ())) ((getI a.P.Nodes b).bind fun d => (cond (decide (d.Kind = 20)) ((g (.c210 a (w64 (b + 1)))).bind fun (e : RT29) => ((g (.c147 e.1.2.1)).bind fun (f : RT0) => (cond f.1.1 (some ((0, e.1.2.1, ()), ())) ((g (.c161 e.1.2.1.P.Types e.1.1)).bind fun (h : RT28) => ((g (.c209 (GR09S.mk (GApiProg.mk e.1.2.1.P.Nodes e.1.2.1.P.Marks h.1.1 e.1.2.1.P.Recs e.1.2.1.P.Fields e.1.2.1.P.Fns e.1.2.1.P.Slots e.1.2.1.P.Vars e.1.2.1.P.Points) e.1.2.1.Recs e.1.2.1.F) b (GApiMark.mk h.1.2.1 0 0))).bind fun (j : RT30) => (some ((h.1.2.1, j.1.1, ()), ()))))))) ((okP (CutR b (w64 (b + 1)) (a.P.Nodes.length : Int))).bind fun _ => ((g (.c168 a.P.Types a.Recs (cutL a.P.Nodes b (w64 (b + 1))))).bind fun (k : RT28) => (cond (decide (k.1.2.1 = 0)) ((g (.c208 a 8 b)).bind fun (l : RT30) => (some ((0, l.1.1, ()), ()))) ((g (.c209 a b (GApiMark.mk k.1.2.1 0 0))).bind fun (m : RT30) => (some ((k.1.2.1, m.1.1, ()), ()))))))))))
def Qb211 (g : Q_g) (a : GR09S) (b : Int) (c : (List GR09Env)) (d : Int) : Option RT30 :=
 g (.c212 b c d d a)
def Qb212 (g : Q_g) (a : Int) (b : (List GR09Env)) (c : Int) (d : Int) (e : GR09S) : Option RT30 :=
 ((getI e.P.Nodes c).bind fun f => (cond (decide (d ≤ (w64 (c + f.Size)))) ((g (.c147 e)).bind fun (h : RT0) => (cond h.1.1 (some ((e, ()), ())) ((getI e.P.Nodes d).bind fun j => (cond (decide (j.Kind = 26)) (g (.c213 a b c d (-1) 0 e j)) (cond (decide (j.Kind = 27)) ((g (.c148 e j.Text)).bind fun (k : RT2) => (cond (decide (k.1.1 < 0)) ((g (.c189 j.Text)).bind fun (l : RT2) => (cond (decide ((w64 (0 - l.1.1)) = 0)) ((g (.c208 e 8 d)).bind fun (m : RT30) => (some ((m.1.1, ()), ()))) (g (.c214 a b c d (w64 (0 - l.1.1)) e)))) (g (.c214 a b c d k.1.1 e)))) (cond (decide (j.Kind = 32)) ((g (.c210 e (w64 (d + 1)))).bind fun (n : RT29) => ((g (.c209 n.1.2.1 d (GApiMark.mk n.1.1 0 0))).bind fun (o : RT30) => g (.c217 a b c d o.1.1))) (g (.c217 a b c d e)))))))) (g (.c215 e))))
def Qb213 (g : Q_g) (a : Int) (b : (List GR09Env)) (c : Int) (d : Int) (e : Int) (f : Int) (h : GR09S) (j : GApiNode) : Option RT30 :=
 (cond (decide (f < (b.length : Int))) ((getI b f).bind fun k => (cond (decide (k.Name = j.Text)) ((getI b f).bind fun l => g (.c213 a b c d l.Slot (w64 (f + 1)) h j)) (g (.c213 a b c d e (w64 (f + 1)) h j)))) (g (.c216 a b c d e h)))
def Qb214 (g : Q_g) (a : Int) (b : (List GR09Env)) (c : Int) (d : Int) (e : Int) (f : GR09S) : Option RT30 :=
 ((g (.c209 f d (GApiMark.mk 0 e 0))).bind fun (h : RT30) => g (.c217 a b c d h.1.1))
def Qb215 (g : Q_g) (a : GR09S) : Option RT30 :=
 (some ((a, ()), ()))
def Qb216 (g : Q_g) (a : Int) (b : (List GR09Env)) (c : Int) (d : Int) (e : Int) (f : GR09S) : Option RT30 :=
 (cond (decide (e < 0)) ((g (.c208 f 8 d)).bind fun (h : RT30) => (some ((h.1.1, ()), ()))) ((getI f.P.Fns a).bind fun j => ((getI f.P.Slots (w64 (j.At + e))).bind fun k => ((f.P.Slots[(Int.toNat (w64 (j.At + e)))]?).bind fun l => ((g (.c209 f d (GApiMark.mk l e 0))).bind fun (m : RT30) => g (.c217 a b c d m.1.1))))))
def Qb217 (g : Q_g) (a : Int) (b : (List GR09Env)) (c : Int) (d : Int) (e : GR09S) : Option RT30 :=
 g (.c212 a b c (w64 (d + 1)) e)
def Qb218 (g : Q_g) (a : GR09S) (b : Int) (c : (List GR09Env)) (d : Int) (e : Int) : Option RT31 :=
 ((getI a.P.Nodes e).bind fun f => ((appD 32 a.P.Points ([(GApiPoint.mk b e f.Line f.Col)] : List GApiPoint)).bind fun h => ((g (.c209 (GR09S.mk (GApiProg.mk a.P.Nodes a.P.Marks a.P.Types a.P.Recs a.P.Fields a.P.Fns a.P.Slots a.P.Vars h) a.Recs a.F) e (GApiMark.mk 0 0 (a.P.Points.length : Int)))).bind fun (j : RT30) => ((g (.c129 j.1.1.P.Nodes e)).bind fun (k : RT3) => (cond (!(decide (f.Kind = 7))) (g (.c219 b c k 0 j.1.1)) ((getI k.1.1 0).bind fun l => ((k.1.1[(Int.toNat 0)]?).bind fun m => ((g (.c210 j.1.1 m)).bind fun (n : RT29) => ((g (.c147 n.1.2.1)).bind fun (o : RT0) => (cond (!o.1.1) ((getI k.1.1 1).bind fun p => ((k.1.1[(Int.toNat 1)]?).bind fun q => ((g (.c211 n.1.2.1 b c q)).bind fun (s : RT30) => g (.c221 b c d e a n s.1.1 f)))) (g (.c221 b c d e a n n.1.2.1 f))))))))))))
def Qb219 (g : Q_g) (a : Int) (b : (List GR09Env)) (c : RT3) (d : Int) (e : GR09S) : Option RT31 :=
 (cond (decide (d < (c.1.1.length : Int))) ((g (.c147 e)).bind fun (f : RT0) => (cond f.1.1 (some ((b, e, ()), ())) ((getI c.1.1 d).bind fun h => ((c.1.1[(Int.toNat d)]?).bind fun j => ((getI e.P.Nodes j).bind fun k => (cond (decide (k.Kind = 6)) ((getI c.1.1 d).bind fun l => ((c.1.1[(Int.toNat d)]?).bind fun m => ((g (.c225 e a b m)).bind fun (n : RT30) => g (.c219 a b c (w64 (d + 1)) n.1.1)))) ((getI c.1.1 d).bind fun o => ((c.1.1[(Int.toNat d)]?).bind fun p => ((g (.c211 e a b p)).bind fun (q : RT30) => g (.c219 a b c (w64 (d + 1)) q.1.1)))))))))) (g (.c222 b e)))
def Qb220 (g : Q_g) (a : Int) (b : (List GR09Env)) (c : Int) (d : Int) (e : GR09S) (f : RT29) (h : Int) (j : GR09S) (k : GApiNode) : Option RT31 :=
 (cond (decide (h < (b.length : Int))) ((getI b h).bind fun l => (cond (decide (l.Name = k.Text)) ((getI b h).bind fun m => (cond (decide (m.Block = c)) ((g (.c208 j 7 d)).bind fun (n : RT30) => g (.c220 a b c d e f (w64 (h + 1)) n.1.1 k)) (g (.c220 a b c d e f (w64 (h + 1)) j k)))) (g (.c220 a b c d e f (w64 (h + 1)) j k)))) (g (.c223 a b c d e f j k)))
def Qb221 (g : Q_g) (a : Int) (b : (List GR09Env)) (c : Int) (d : Int) (e : GR09S) (f : RT29) (h : GR09S) (j : GApiNode) : Option RT31 :=
 g (.c220 a b c d e f 0 h j)
def Qb222 (g : Q_g) (a : (List GR09Env)) (b : GR09S) : Option RT31 :=
 (some ((a, b, ()), ()))
def Qb223 (g : Q_g) (a : Int) (b : (List GR09Env)) (c : Int) (d : Int) (e : GR09S) (f : RT29) (h : GR09S) (j : GApiNode) : Option RT31 :=
 ((getI h.P.Fns a).bind fun k => (cond (decide (k.Slots ≥ 200)) ((g (.c208 h 13 d)).bind fun (l : RT30) => g (.c224 a b c d e f l.1.1 j)) (g (.c224 a b c d e f h j))))
def Qb224 (g : Q_g) (a : Int) (b : (List GR09Env)) (c : Int) (d : Int) (e : GR09S) (f : RT29) (h : GR09S) (j : GApiNode) : Option RT31 :=
 ((g (.c147 h)).bind fun (k : RT0) => (cond k.1.1 (some ((b, h, ()), ())) ((getI h.P.Fns a).bind fun l => ((g (.c209 h d (GApiMark.mk f.1.1 l.Slots (e.P.Points.length : Int)))).bind fun (m : RT30) => ((g (.c207 m.1.1 a b j.Text f.1.1 c (m.1.1.P.Points.length : Int))).bind fun (n : RT31) => (some ((n.1.1, n.1.2.1, ()), ())))))))
def Qb225 (g : Q_g) (a : GR09S) (b : Int) (c : (List GR09Env)) (d : Int) : Option RT30 :=
 ((g (.c129 a.P.Nodes d)).bind fun (e : RT3) => g (.c226 b c d e 0 a))
def Qb226 (g : Q_g) (a : Int) (b : (List GR09Env)) (c : Int) (d : RT3) (e : Int) (f : GR09S) : Option RT30 :=
 (cond (decide (e < (d.1.1.length : Int))) ((g (.c147 f)).bind fun (h : RT0) => (cond h.1.1 (some ((f, ()), ())) ((getI d.1.1 e).bind fun j => ((d.1.1[(Int.toNat e)]?).bind fun k => ((g (.c218 f a b c k)).bind fun (l : RT31) => g (.c226 a l.1.1 c d (w64 (e + 1)) l.1.2.1)))))) (g (.c227 b c f)))
def Qb227 (g : Q_g) (a : (List GR09Env)) (b : Int) (c : GR09S) : Option RT30 :=
 ((appD 48 ([] : List GApiVar) c.P.Vars).bind fun d => g (.c228 a b 0 c d))
def Qb228 (g : Q_g) (a : (List GR09Env)) (b : Int) (c : Int) (d : GR09S) (e : (List GApiVar)) : Option RT30 :=
 (cond (decide (c < (a.length : Int))) ((getI a c).bind fun f => (cond (decide (f.Block = b)) ((getI a c).bind fun h => ((getI e h.At).bind fun j => ((e[(Int.toNat h.At)]?).bind fun k => ((e[(Int.toNat h.At)]?).bind fun l => ((setN e (Int.toNat h.At) (GApiVar.mk l.Fn l.Name l.Slot l.First (d.P.Points.length : Int))).bind fun m => g (.c228 a b (w64 (c + 1)) d m)))))) (g (.c228 a b (w64 (c + 1)) d e)))) (g (.c229 d e)))
def Qb229 (g : Q_g) (a : GR09S) (b : (List GApiVar)) : Option RT30 :=
 (some (((GR09S.mk (GApiProg.mk a.P.Nodes a.P.Marks a.P.Types a.P.Recs a.P.Fields a.P.Fns a.P.Slots b a.P.Points) a.Recs a.F), ()), ()))
def Qb230 (g : Q_g) (a : GR09S) (b : Int) : Option RT30 :=
 ((appD 72 ([] : List GApiFn) a.P.Fns).bind fun c => ((getI c b).bind fun d => ((c[(Int.toNat b)]?).bind fun e => ((c[(Int.toNat b)]?).bind fun f => ((setN c (Int.toNat b) (GApiFn.mk f.Name f.Node f.Params f.Result (a.P.Slots.length : Int) f.Slots f.First f.Points)).bind fun h => ((getI h b).bind fun j => ((h[(Int.toNat b)]?).bind fun k => ((h[(Int.toNat b)]?).bind fun l => ((setN h (Int.toNat b) (GApiFn.mk l.Name l.Node l.Params l.Result l.At l.Slots (a.P.Points.length : Int) l.Points)).bind fun m => ((getI m b).bind fun n => ((m[(Int.toNat b)]?).bind fun o => ((m[(Int.toNat b)]?).bind fun p => ((g (.c129 a.P.Nodes p.Node)).bind fun (q : RT3) => g (.c231 b q 0 (GR09S.mk (GApiProg.mk a.P.Nodes a.P.Marks a.P.Types a.P.Recs a.P.Fields m a.P.Slots a.P.Vars a.P.Points) a.Recs a.F) ([] : List GR09Env)))))))))))))))
def Qb231 (g : Q_g) (a : Int) (b : RT3) (c : Int) (d : GR09S) (e : (List GR09Env)) : Option RT30 :=
 (cond (decide (c < (w64 ((b.1.1.length : Int) - 2)))) ((getI b.1.1 c).bind fun f => ((b.1.1[(Int.toNat c)]?).bind fun h => ((getI d.P.Nodes h).bind fun j => ((getI b.1.1 c).bind fun k => ((b.1.1[(Int.toNat c)]?).bind fun l => ((getI d.P.Marks l).bind fun m => ((getI b.1.1 (w64 ((w64 ((b.1.1.length : Int) - 2)) + 1))).bind fun n => ((b.1.1[(Int.toNat (w64 ((w64 ((b.1.1.length : Int) - 2)) + 1)))]?).bind fun o => ((g (.c207 d a e j.Text m.Type_ o (d.P.Points.length : Int))).bind fun (p : RT31) => g (.c231 a b (w64 (c + 1)) p.1.2.1 p.1.1)))))))))) (g (.c232 a b d e)))
def Qb232 (g : Q_g) (a : Int) (b : RT3) (c : GR09S) (d : (List GR09Env)) : Option RT30 :=
 ((getI b.1.1 (w64 ((w64 ((b.1.1.length : Int) - 2)) + 1))).bind fun e => ((b.1.1[(Int.toNat (w64 ((w64 ((b.1.1.length : Int) - 2)) + 1)))]?).bind fun f => ((g (.c225 c a d f)).bind fun (h : RT30) => ((appD 72 ([] : List GApiFn) h.1.1.P.Fns).bind fun j => ((getI j a).bind fun k => ((j[(Int.toNat a)]?).bind fun l => ((j[(Int.toNat a)]?).bind fun m => ((getI j a).bind fun n => ((j[(Int.toNat a)]?).bind fun o => ((j[(Int.toNat a)]?).bind fun p => ((setN j (Int.toNat a) (GApiFn.mk p.Name p.Node p.Params p.Result p.At p.Slots p.First (w64 ((h.1.1.P.Points.length : Int) - m.First)))).bind fun q => (some (((GR09S.mk (GApiProg.mk h.1.1.P.Nodes h.1.1.P.Marks h.1.1.P.Types h.1.1.P.Recs h.1.1.P.Fields q h.1.1.P.Slots h.1.1.P.Vars h.1.1.P.Points) h.1.1.Recs h.1.1.F), ()), ())))))))))))))
def Qb233 (g : Q_g) (a : (List GApiNode)) : Option RT34 :=
 ((g (.c144 a)).bind fun (b : RT0) => (cond (!b.1.1) (some (((GApiProg.mk ([] : List GApiNode) ([] : List GApiMark) ([] : List GApiType) ([] : List GApiRec) ([] : List GApiField) ([] : List GApiFn) ([] : List Int) ([] : List GApiVar) ([] : List GApiPoint)), (GApiFault.mk 1 0 0), ()), ())) ((okP (MakeOb 24 (a.length : Int))).bind fun _ => ((g (.c175 (GR09S.mk (GApiProg.mk a (List.replicate (Int.toNat (a.length : Int)) ((GApiMark.mk 0 0 0) : GApiMark)) ([] : List GApiType) ([] : List GApiRec) ([] : List GApiField) ([] : List GApiFn) ([] : List Int) ([] : List GApiVar) ([] : List GApiPoint)) ([] : List (List UInt8)) (GApiFault.mk 0 0 0)))).bind fun (c : RT30) => ((g (.c147 c.1.1)).bind fun (d : RT0) => (cond (!d.1.1) ((g (.c195 c.1.1)).bind fun (e : RT30) => g (.c237 e.1.1)) (g (.c237 c.1.1))))))))
def Qb234 (g : Q_g) (a : Int) (b : Int) (c : GR09S) : Option RT34 :=
 (cond (decide (b < a)) ((g (.c147 c)).bind fun (d : RT0) => (cond (!d.1.1) ((g (.c230 c b)).bind fun (e : RT30) => g (.c234 a (w64 (b + 1)) e.1.1)) (g (.c234 a (w64 (b + 1)) c)))) (g (.c238 c)))
def Qb235 (g : Q_g) (a : GR09S) : Option RT34 :=
 g (.c234 (a.P.Fns.length : Int) 0 a)
def Qb236 (g : Q_g) (a : RT2) (b : GR09S) : Option RT34 :=
 ((getI b.P.Fns a.1.1).bind fun c => ((b.P.Fns[(Int.toNat a.1.1)]?).bind fun d => ((b.P.Fns[(Int.toNat a.1.1)]?).bind fun e => ((g (.c193 b 11 e.Node)).bind fun (f : RT30) => g (.c235 f.1.1)))))
def Qb237 (g : Q_g) (a : GR09S) : Option RT34 :=
 ((g (.c147 a)).bind fun (b : RT0) => (cond (!b.1.1) ((g (.c148 a ([109, 97, 105, 110] : List UInt8))).bind fun (c : RT2) => (cond (decide (c.1.1 < 0)) (g (.c235 (GR09S.mk a.P a.Recs (GApiFault.mk 11 0 0)))) ((getI a.P.Fns c.1.1).bind fun d => ((a.P.Fns[(Int.toNat c.1.1)]?).bind fun e => ((a.P.Fns[(Int.toNat c.1.1)]?).bind fun f => (cond (decide (f.Params > 0)) (g (.c236 c a)) ((getI a.P.Fns c.1.1).bind fun h => ((a.P.Fns[(Int.toNat c.1.1)]?).bind fun j => ((a.P.Fns[(Int.toNat c.1.1)]?).bind fun k => (cond (!(decide (k.Result = 0))) (g (.c236 c a)) (g (.c235 a)))))))))))) (g (.c235 a))))
def Qb238 (g : Q_g) (a : GR09S) : Option RT34 :=
 ((g (.c147 a)).bind fun (b : RT0) => (cond b.1.1 (some (((GApiProg.mk ([] : List GApiNode) ([] : List GApiMark) ([] : List GApiType) ([] : List GApiRec) ([] : List GApiField) ([] : List GApiFn) ([] : List Int) ([] : List GApiVar) ([] : List GApiPoint)), a.F, ()), ())) (some ((a.P, (GApiFault.mk 0 0 0), ()), ()))))
def Qb239 (g : Q_g) (a : GR10C) (b : Int) (c : Int) : Option RT4 :=
 (cond (decide (a.F.Code = 0)) ((getI a.L c).bind fun d => ((getI a.L c).bind fun e => (some (((GR10C.mk a.L a.M a.P a.T (GApiFault.mk b d.Line e.Col) a.Result), ()), ())))) (some ((a, ()), ())))
def Qb240 (g : Q_g) (a : GR10C) (b : Bool) (c : Int) : Option RT4 :=
 (cond b (some ((a, ()), ())) ((g (.c239 a 9 c)).bind fun (d : RT4) => (some ((d.1.1, ()), ()))))
def Qb241 (g : Q_g) (a : (List GApiType)) (b : Int) (c : Int) : Option RT0 :=
 (cond (decide (b < 0)) (some ((false, ()), ())) (cond (decide (c < 0)) (some ((false, ()), ())) (cond (decide (b ≥ (a.length : Int))) (some ((false, ()), ())) (cond (decide (c ≥ (a.length : Int))) (some ((false, ()), ())) (cond (decide (b = 5)) ((getI a c).bind fun d => (cond (decide (d.Kind = 6)) (some ((true, ()), ())) ((getI a c).bind fun e => (cond (decide (e.Kind = 7)) (some ((true, ()), ())) (some (((decide (b = c)), ()), ())))))) (some (((decide (b = c)), ()), ())))))))
def Qb242 (g : Q_g) (a : GR10C) (b : Int) (c : Int) : Option RT0 :=
 ((g (.c241 a.T b c)).bind fun (d : RT0) => (some ((d.1.1, ()), ())))
def Qb243 (g : Q_g) (a : Int) : Option RT23 :=
 ((getI Qk4 a).bind fun b => ((Qk4[(Int.toNat a)]?).bind fun c => ((getI ([0, 1, 3, 1, 1, 4, 3, 1, 1] : List Int) a).bind fun d => ((([0, 1, 3, 1, 1, 4, 3, 1, 1] : List Int)[(Int.toNat a)]?).bind fun e => (some ((c, e, ()), ()))))))
def Qb244 (g : Q_g) (a : GR10C) (b : Int) : Option RT2 :=
 ((getI a.T b).bind fun c => (some ((c.Kind, ()), ())))
def Qb245 (g : Q_g) (a : GR10C) (b : Int) (c : Int) : Option RT0 :=
 (cond (decide (c = 105)) (some (((decide (b = 1)), ()), ())) (cond (decide (c = 99)) (some (((decide (b = 4)), ()), ())) (cond (decide (c = 108)) (cond (decide (b = 3)) (some ((true, ()), ())) ((g (.c244 a b)).bind fun (d : RT2) => (some (((decide (d.1.1 = 7)), ()), ())))) (cond (decide (b = 1)) (some ((true, ()), ())) (cond (decide (b = 2)) (some ((true, ()), ())) (some (((decide (b = 4)), ()), ())))))))
def Qb246 (g : Q_g) (a : GR10C) (b : Int) : Option RT22 :=
 ((g (.c129 a.L b)).bind fun (c : RT3) => g (.c247 b c 0 a ([] : List Int)))
def Qb247 (g : Q_g) (a : Int) (b : RT3) (c : Int) (d : GR10C) (e : (List Int)) : Option RT22 :=
 (cond (decide (c < (b.1.1.length : Int))) ((getI b.1.1 c).bind fun f => ((b.1.1[(Int.toNat c)]?).bind fun h => ((g (.c264 d h)).bind fun (j : RT22) => ((appD 8 e ([j.1.1] : List Int)).bind fun k => g (.c247 a b (w64 (c + 1)) j.1.2.1 k))))) (g (.c248 a d b e)))
def Qb248 (g : Q_g) (a : Int) (b : GR10C) (c : RT3) (d : (List Int)) : Option RT22 :=
 (cond (!(decide (b.F.Code = 0))) (some ((0, b, ()), ())) ((getI b.M a).bind fun e => (cond (decide (e.Ref < 0)) ((g (.c243 (w64 (0 - e.Ref)))).bind fun (f : RT23) => (cond (!(decide ((f.1.1.length : Int) = (c.1.1.length : Int)))) ((g (.c239 b 10 a)).bind fun (h : RT4) => (some ((0, h.1.1, ()), ()))) (g (.c249 f c 0 b d)))) ((getI b.P.Fns e.Ref).bind fun j => (cond (!(decide (j.Params = (c.1.1.length : Int)))) ((g (.c239 b 10 a)).bind fun (k : RT4) => (some ((0, k.1.1, ()), ()))) (g (.c250 c 0 b j d)))))))
def Qb249 (g : Q_g) (a : RT23) (b : RT3) (c : Int) (d : GR10C) (e : (List Int)) : Option RT22 :=
 (cond (decide (c < (b.1.1.length : Int))) ((getI e c).bind fun f => ((e[(Int.toNat c)]?).bind fun h => ((getI a.1.1 c).bind fun j => ((g (.c245 d h (j.toNat : Int))).bind fun (k : RT0) => ((getI b.1.1 c).bind fun l => ((b.1.1[(Int.toNat c)]?).bind fun m => ((g (.c240 d k.1.1 m)).bind fun (n : RT4) => g (.c249 a b (w64 (c + 1)) n.1.1 e)))))))) (g (.c251 a d)))
def Qb250 (g : Q_g) (a : RT3) (b : Int) (c : GR10C) (d : GApiFn) (e : (List Int)) : Option RT22 :=
 (cond (decide (b < (a.1.1.length : Int))) ((getI e b).bind fun f => ((e[(Int.toNat b)]?).bind fun h => ((getI c.P.Slots (w64 (d.At + b))).bind fun j => ((g (.c242 c h j)).bind fun (k : RT0) => ((getI a.1.1 b).bind fun l => ((a.1.1[(Int.toNat b)]?).bind fun m => ((g (.c240 c k.1.1 m)).bind fun (n : RT4) => g (.c250 a (w64 (b + 1)) n.1.1 d e)))))))) (g (.c252 c d)))
def Qb251 (g : Q_g) (a : RT23) (b : GR10C) : Option RT22 :=
 (some ((a.1.2.1, b, ()), ()))
def Qb252 (g : Q_g) (a : GR10C) (b : GApiFn) : Option RT22 :=
 (some ((b.Result, a, ()), ()))
def Qb253 (g : Q_g) (a : GR10C) (b : Int) (c : Int) : Option RT22 :=
 ((g (.c264 a c)).bind fun (d : RT22) => (cond (!(decide (d.1.2.1.F.Code = 0))) (g (.c254 c d)) ((g (.c244 d.1.2.1 d.1.1)).bind fun (e : RT2) => (cond (!(decide (e.1.1 = 6))) (g (.c254 c d)) ((getI d.1.2.1.T d.1.1).bind fun f => ((getI d.1.2.1.P.Recs f.Of).bind fun h => g (.c255 b 0 d h)))))))
def Qb254 (g : Q_g) (a : Int) (b : RT22) : Option RT22 :=
 ((g (.c239 b.1.2.1 9 a)).bind fun (c : RT4) => (some ((0, c.1.1, ()), ())))
def Qb255 (g : Q_g) (a : Int) (b : Int) (c : RT22) (d : GApiRec) : Option RT22 :=
 (cond (decide (b < d.Count)) ((getI c.1.2.1.P.Fields (w64 (d.From + b))).bind fun e => ((getI c.1.2.1.L a).bind fun f => (cond (decide (e.Name = f.Text)) ((appD 24 ([] : List GApiMark) c.1.2.1.M).bind fun h => ((getI h a).bind fun j => ((h[(Int.toNat a)]?).bind fun k => ((h[(Int.toNat a)]?).bind fun l => ((setN h (Int.toNat a) (GApiMark.mk l.Type_ b l.Point)).bind fun m => (some ((e.Type_, (GR10C.mk c.1.2.1.L m c.1.2.1.P c.1.2.1.T c.1.2.1.F c.1.2.1.Result), ()), ()))))))) (g (.c255 a (w64 (b + 1)) c d))))) (g (.c256 a c)))
def Qb256 (g : Q_g) (a : Int) (b : RT22) : Option RT22 :=
 ((g (.c239 b.1.2.1 8 a)).bind fun (c : RT4) => (some ((0, c.1.1, ()), ())))
def Qb257 (g : Q_g) (a : GR10C) (b : Int) (c : Int) (d : Int) : Option RT2 :=
 ((g (.c244 a c)).bind fun (e : RT2) => ((g (.c244 a d)).bind fun (f : RT2) => (cond (decide (b = 6)) (g (.c259 c d e f a)) (cond (decide (b = 7)) (g (.c259 c d e f a)) (cond (!(decide (c = d))) (some ((0, ()), ())) (cond (decide (b = 14)) (g (.c260 c)) (cond (decide (b = 15)) (g (.c260 c)) (cond (decide (b ≥ 8)) (cond (decide (c = 1)) (some ((2, ()), ())) (g (.c262))) (cond (decide (c = 1)) (some ((1, ()), ())) (cond (decide (c = 4)) (cond (decide (b ≤ 3)) (some ((4, ()), ())) (g (.c261 b c))) (g (.c261 b c))))))))))))
def Qb258 (g : Q_g) (a : Int) (b : Int) : Option RT2 :=
 (cond (decide (a = b)) (cond (decide (a > 0)) (some ((2, ()), ())) (g (.c262))) (g (.c262)))
def Qb259 (g : Q_g) (a : Int) (b : Int) (c : RT2) (d : RT2) (e : GR10C) : Option RT2 :=
 (cond (decide (c.1.1 ≥ 5)) (cond (decide (d.1.1 ≥ 5)) (cond (!(decide (c.1.1 = 5))) ((g (.c242 e a b)).bind fun (f : RT0) => (cond f.1.1 (some ((2, ()), ())) ((g (.c242 e b a)).bind fun (h : RT0) => (cond h.1.1 (some ((2, ()), ())) (some ((0, ()), ())))))) (cond (!(decide (d.1.1 = 5))) ((g (.c242 e a b)).bind fun (f : RT0) => (cond f.1.1 (some ((2, ()), ())) ((g (.c242 e b a)).bind fun (h : RT0) => (cond h.1.1 (some ((2, ()), ())) (some ((0, ()), ())))))) (some ((0, ()), ())))) (g (.c258 a b))) (g (.c258 a b)))
def Qb260 (g : Q_g) (a : Int) : Option RT2 :=
 (cond (decide (a = 2)) (some ((2, ()), ())) (g (.c262)))
def Qb261 (g : Q_g) (a : Int) (b : Int) : Option RT2 :=
 (cond (decide (b = 3)) (cond (decide (a = 1)) (some ((3, ()), ())) (g (.c262))) (g (.c262)))
def Qb262 (g : Q_g)  : Option RT2 :=
 (some ((0, ()), ()))
def Qb263 (g : Q_g) (a : GR10C) (b : Int) (c : Int) : Option RT4 :=
 ((appD 24 ([] : List GApiMark) a.M).bind fun d => ((getI d b).bind fun e => ((d[(Int.toNat b)]?).bind fun f => ((d[(Int.toNat b)]?).bind fun h => ((setN d (Int.toNat b) (GApiMark.mk c h.Ref h.Point)).bind fun j => (some (((GR10C.mk a.L j a.P a.T a.F a.Result), ()), ())))))))
def Qb264 (g : Q_g) (a : GR10C) (b : Int) : Option RT22 :=
 (cond (!(decide (a.F.Code = 0))) (some ((0, a, ()), ())) ((getI a.L b).bind fun c => ((g (.c129 a.L b)).bind fun (d : RT3) => ((getI a.M b).bind fun e => (cond (decide (c.Kind ≥ 21)) (cond (decide (c.Kind ≤ 25)) ((getI ([1, 4, 3, 2, 5] : List Int) (IntKind.wrap .u8 (c.Kind - 21))).bind fun f => ((([1, 4, 3, 2, 5] : List Int)[(Int.toNat (IntKind.wrap .u8 (c.Kind - 21)))]?).bind fun h => g (.c265 b h a))) (g (.c268 b e a c d))) (g (.c268 b e a c d)))))))
def Qb265 (g : Q_g) (a : Int) (b : Int) (c : GR10C) : Option RT22 :=
 ((g (.c263 c a b)).bind fun (d : RT4) => (some ((b, d.1.1, ()), ())))
def Qb266 (g : Q_g) (a : Int) (b : Int) (c : RT22) (d : RT3) : Option RT22 :=
 ((getI d.1.1 0).bind fun e => ((d.1.1[(Int.toNat 0)]?).bind fun f => ((g (.c240 c.1.2.1 (decide (b > 0)) f)).bind fun (h : RT4) => ((getI d.1.1 1).bind fun j => ((d.1.1[(Int.toNat 1)]?).bind fun k => ((g (.c240 h.1.1 (decide (c.1.1 = 1)) k)).bind fun (l : RT4) => g (.c265 a b l.1.1)))))))
def Qb267 (g : Q_g) (a : Int) (b : Int) (c : RT22) (d : RT22) (e : RT3) : Option RT22 :=
 (cond (decide (c.1.1 = 3)) (g (.c266 a 1 d e)) (g (.c266 a b d e)))
def Qb268 (g : Q_g) (a : Int) (b : GApiMark) (c : GR10C) (d : GApiNode) (e : RT3) : Option RT22 :=
 (cond (decide (d.Kind = 27)) ((g (.c246 c a)).bind fun (f : RT22) => g (.c265 a f.1.1 f.1.2.1)) (cond (decide (d.Kind = 28)) ((getI e.1.1 0).bind fun h => ((e.1.1[(Int.toNat 0)]?).bind fun j => ((g (.c264 c j)).bind fun (k : RT22) => ((getI e.1.1 1).bind fun l => ((e.1.1[(Int.toNat 1)]?).bind fun m => ((g (.c264 k.1.2.1 m)).bind fun (n : RT22) => ((g (.c244 n.1.2.1 k.1.1)).bind fun (o : RT2) => (cond (decide (o.1.1 = 7)) ((getI n.1.2.1.T k.1.1).bind fun p => g (.c267 a p.Of k n e)) (g (.c267 a 0 k n e)))))))))) (cond (decide (d.Kind = 29)) ((getI e.1.1 0).bind fun q => ((e.1.1[(Int.toNat 0)]?).bind fun s => ((g (.c253 c a s)).bind fun (t : RT22) => g (.c265 a t.1.1 t.1.2.1)))) (cond (decide (d.Kind = 30)) ((getI e.1.1 0).bind fun u => ((e.1.1[(Int.toNat 0)]?).bind fun v => ((g (.c264 c v)).bind fun (w : RT22) => (cond (decide (d.Num = 13)) (cond (decide (w.1.1 = 2)) ((getI e.1.1 0).bind fun y => ((e.1.1[(Int.toNat 0)]?).bind fun z => ((g (.c240 w.1.2.1 true z)).bind fun (a1 : RT4) => g (.c265 a w.1.1 a1.1.1)))) (cond (decide (d.Num = 12)) (cond (decide (w.1.1 = 1)) ((getI e.1.1 0).bind fun y => ((e.1.1[(Int.toNat 0)]?).bind fun z => ((g (.c240 w.1.2.1 true z)).bind fun (a1 : RT4) => g (.c265 a w.1.1 a1.1.1)))) ((getI e.1.1 0).bind fun y => ((e.1.1[(Int.toNat 0)]?).bind fun z => ((g (.c240 w.1.2.1 (decide (w.1.1 = 4)) z)).bind fun (a1 : RT4) => g (.c265 a w.1.1 a1.1.1))))) ((getI e.1.1 0).bind fun y => ((e.1.1[(Int.toNat 0)]?).bind fun z => ((g (.c240 w.1.2.1 false z)).bind fun (a1 : RT4) => g (.c265 a w.1.1 a1.1.1)))))) (cond (decide (d.Num = 12)) (cond (decide (w.1.1 = 1)) ((getI e.1.1 0).bind fun y => ((e.1.1[(Int.toNat 0)]?).bind fun z => ((g (.c240 w.1.2.1 true z)).bind fun (a1 : RT4) => g (.c265 a w.1.1 a1.1.1)))) ((getI e.1.1 0).bind fun y => ((e.1.1[(Int.toNat 0)]?).bind fun z => ((g (.c240 w.1.2.1 (decide (w.1.1 = 4)) z)).bind fun (a1 : RT4) => g (.c265 a w.1.1 a1.1.1))))) ((getI e.1.1 0).bind fun y => ((e.1.1[(Int.toNat 0)]?).bind fun z => ((g (.c240 w.1.2.1 false z)).bind fun (a1 : RT4) => g (.c265 a w.1.1 a1.1.1))))))))) (cond (decide (d.Kind = 31)) ((getI e.1.1 0).bind fun b1 => ((e.1.1[(Int.toNat 0)]?).bind fun c1 => ((g (.c264 c c1)).bind fun (d1 : RT22) => ((getI e.1.1 1).bind fun e1 => ((e.1.1[(Int.toNat 1)]?).bind fun f1 => ((g (.c264 d1.1.2.1 f1)).bind fun (h1 : RT22) => ((g (.c257 h1.1.2.1 d.Num d1.1.1 h1.1.1)).bind fun (j1 : RT2) => ((g (.c240 h1.1.2.1 (decide (j1.1.1 > 0)) a)).bind fun (k1 : RT4) => g (.c265 a j1.1.1 k1.1.1))))))))) (cond (decide (d.Kind = 32)) (cond (decide ((e.1.1.length : Int) = 2)) ((getI e.1.1 1).bind fun l1 => ((e.1.1[(Int.toNat 1)]?).bind fun m1 => ((g (.c264 c m1)).bind fun (n1 : RT22) => ((getI e.1.1 1).bind fun o1 => ((e.1.1[(Int.toNat 1)]?).bind fun p1 => ((g (.c240 n1.1.2.1 (decide (n1.1.1 = 1)) p1)).bind fun (q1 : RT4) => g (.c265 a b.Type_ q1.1.1))))))) (g (.c265 a b.Type_ c))) (g (.c265 a b.Type_ c))))))))
def Qb269 (g : Q_g) (a : GR10C) (b : Int) : Option RT24 :=
 (cond (!(decide (a.F.Code = 0))) (some ((false, a, ()), ())) ((g (.c129 a.L b)).bind fun (c : RT3) => ((getI a.L b).bind fun d => (cond (decide (d.Kind = 7)) ((getI c.1.1 1).bind fun e => ((c.1.1[(Int.toNat 1)]?).bind fun f => ((g (.c264 a f)).bind fun (h : RT22) => ((getI h.1.2.1.M b).bind fun j => ((g (.c242 h.1.2.1 h.1.1 j.Type_)).bind fun (k : RT0) => ((getI c.1.1 1).bind fun l => ((c.1.1[(Int.toNat 1)]?).bind fun m => ((g (.c240 h.1.2.1 k.1.1 m)).bind fun (n : RT4) => (some ((false, n.1.1, ()), ())))))))))) (cond (decide (d.Kind = 8)) ((getI c.1.1 0).bind fun o => ((c.1.1[(Int.toNat 0)]?).bind fun p => ((g (.c264 a p)).bind fun (q : RT22) => ((getI c.1.1 1).bind fun s => ((c.1.1[(Int.toNat 1)]?).bind fun t => ((g (.c264 q.1.2.1 t)).bind fun (u : RT22) => (cond (decide (u.1.2.1.F.Code = 0)) ((getI c.1.1 0).bind fun v => ((c.1.1[(Int.toNat 0)]?).bind fun w => ((getI u.1.2.1.L w).bind fun y => (cond (decide (y.Kind = 28)) ((getI c.1.1 0).bind fun z => ((c.1.1[(Int.toNat 0)]?).bind fun a1 => ((getI u.1.2.1.M (w64 (a1 + 1))).bind fun b1 => (cond (decide (b1.Type_ = 3)) ((getI c.1.1 0).bind fun c1 => ((c.1.1[(Int.toNat 0)]?).bind fun d1 => ((g (.c239 u.1.2.1 9 d1)).bind fun (e1 : RT4) => g (.c270 q u e1.1.1 c)))) (g (.c270 q u u.1.2.1 c)))))) (g (.c270 q u u.1.2.1 c)))))) (g (.c270 q u u.1.2.1 c))))))))) (cond (decide (d.Kind = 9)) (g (.c272 a c)) (cond (decide (d.Kind = 10)) (g (.c272 a c)) (cond (decide (d.Kind = 11)) (cond (decide ((c.1.1.length : Int) = 0)) ((g (.c240 a (decide (a.Result = 0)) b)).bind fun (f1 : RT4) => (some ((true, f1.1.1, ()), ()))) ((getI c.1.1 0).bind fun h1 => ((c.1.1[(Int.toNat 0)]?).bind fun j1 => ((g (.c264 a j1)).bind fun (k1 : RT22) => (cond (!(decide (a.Result = 0))) ((g (.c242 k1.1.2.1 k1.1.1 a.Result)).bind fun (l1 : RT0) => ((getI c.1.1 0).bind fun m1 => ((c.1.1[(Int.toNat 0)]?).bind fun n1 => ((g (.c240 k1.1.2.1 l1.1.1 n1)).bind fun (o1 : RT4) => (some ((true, o1.1.1, ()), ())))))) ((getI c.1.1 0).bind fun m1 => ((c.1.1[(Int.toNat 0)]?).bind fun n1 => ((g (.c240 k1.1.2.1 false n1)).bind fun (o1 : RT4) => (some ((true, o1.1.1, ()), ())))))))))) (cond (decide (d.Kind = 12)) ((getI c.1.1 0).bind fun p1 => ((c.1.1[(Int.toNat 0)]?).bind fun q1 => ((g (.c264 a q1)).bind fun (s1 : RT22) => ((getI c.1.1 0).bind fun t1 => ((c.1.1[(Int.toNat 0)]?).bind fun u1 => ((g (.c240 s1.1.2.1 (!(decide (s1.1.1 = 0))) u1)).bind fun (v1 : RT4) => (some ((false, v1.1.1, ()), ())))))))) ((getI c.1.1 0).bind fun w1 => ((c.1.1[(Int.toNat 0)]?).bind fun y1 => ((g (.c264 a y1)).bind fun (z1 : RT22) => (some ((false, z1.1.2.1, ()), ()))))))))))))))
def Qb270 (g : Q_g) (a : RT22) (b : RT22) (c : GR10C) (d : RT3) : Option RT24 :=
 ((g (.c242 c b.1.1 a.1.1)).bind fun (e : RT0) => ((getI d.1.1 1).bind fun f => ((d.1.1[(Int.toNat 1)]?).bind fun h => ((g (.c240 c e.1.1 h)).bind fun (j : RT4) => (some ((false, j.1.1, ()), ()))))))
def Qb271 (g : Q_g) (a : Bool) (b : Int) (c : GR10C) (d : RT3) : Option RT24 :=
 (cond (decide (b < (d.1.1.length : Int))) ((getI d.1.1 b).bind fun e => ((d.1.1[(Int.toNat b)]?).bind fun f => ((g (.c274 c f)).bind fun (h : RT24) => (cond a (g (.c271 h.1.1 (w64 (b + 1)) h.1.2.1 d)) (g (.c271 false (w64 (b + 1)) h.1.2.1 d)))))) (g (.c273 a c)))
def Qb272 (g : Q_g) (a : GR10C) (b : RT3) : Option RT24 :=
 ((getI b.1.1 0).bind fun c => ((b.1.1[(Int.toNat 0)]?).bind fun d => ((g (.c264 a d)).bind fun (e : RT22) => ((getI b.1.1 0).bind fun f => ((b.1.1[(Int.toNat 0)]?).bind fun h => ((g (.c240 e.1.2.1 (decide (e.1.1 = 2)) h)).bind fun (j : RT4) => g (.c271 (decide ((b.1.1.length : Int) = 3)) 1 j.1.1 b)))))))
def Qb273 (g : Q_g) (a : Bool) (b : GR10C) : Option RT24 :=
 (some ((a, b, ()), ()))
def Qb274 (g : Q_g) (a : GR10C) (b : Int) : Option RT24 :=
 ((g (.c129 a.L b)).bind fun (c : RT3) => g (.c275 false c 0 a))
def Qb275 (g : Q_g) (a : Bool) (b : RT3) (c : Int) (d : GR10C) : Option RT24 :=
 (cond (decide (c < (b.1.1.length : Int))) ((getI b.1.1 c).bind fun e => ((b.1.1[(Int.toNat c)]?).bind fun f => ((g (.c269 d f)).bind fun (h : RT24) => g (.c275 h.1.1 b (w64 (c + 1)) h.1.2.1)))) (g (.c276 a d)))
def Qb276 (g : Q_g) (a : Bool) (b : GR10C) : Option RT24 :=
 (some ((a, b, ()), ()))
def Qb277 (g : Q_g) (a : (List GApiNode)) : Option RT34 :=
 ((g (.c233 a)).bind fun (b : RT34) => (cond (!(decide (b.1.2.1.Code = 0))) (some (((GApiProg.mk ([] : List GApiNode) ([] : List GApiMark) ([] : List GApiType) ([] : List GApiRec) ([] : List GApiField) ([] : List GApiFn) ([] : List Int) ([] : List GApiVar) ([] : List GApiPoint)), b.1.2.1, ()), ())) (g (.c278 a b 0 (GR10C.mk a b.1.1.Marks b.1.1 b.1.1.Types (GApiFault.mk 0 0 0) 0)))))
def Qb278 (g : Q_g) (a : (List GApiNode)) (b : RT34) (c : Int) (d : GR10C) : Option RT34 :=
 (cond (decide (c < (b.1.1.Fns.length : Int))) ((getI b.1.1.Fns c).bind fun e => ((g (.c129 a e.Node)).bind fun (f : RT3) => ((getI b.1.1.Fns c).bind fun h => ((getI f.1.1 (w64 ((f.1.1.length : Int) - 1))).bind fun j => ((f.1.1[(Int.toNat (w64 ((f.1.1.length : Int) - 1)))]?).bind fun k => ((g (.c274 (GR10C.mk d.L d.M d.P d.T d.F h.Result) k)).bind fun (l : RT24) => (cond (!(decide (l.1.2.1.Result = 0))) (cond (!l.1.1) ((getI b.1.1.Fns c).bind fun m => ((g (.c239 l.1.2.1 12 m.Node)).bind fun (n : RT4) => g (.c278 a b (w64 (c + 1)) n.1.1))) (g (.c278 a b (w64 (c + 1)) l.1.2.1))) (g (.c278 a b (w64 (c + 1)) l.1.2.1))))))))) (g (.c279 b d)))
def Qb279 (g : Q_g) (a : RT34) (b : GR10C) : Option RT34 :=
 (cond (!(decide (b.F.Code = 0))) (some (((GApiProg.mk ([] : List GApiNode) ([] : List GApiMark) ([] : List GApiType) ([] : List GApiRec) ([] : List GApiField) ([] : List GApiFn) ([] : List Int) ([] : List GApiVar) ([] : List GApiPoint)), b.F, ()), ())) (some (((GApiProg.mk a.1.1.Nodes b.M a.1.1.Types a.1.1.Recs a.1.1.Fields a.1.1.Fns a.1.1.Slots a.1.1.Vars a.1.1.Points), (GApiFault.mk 0 0 0), ()), ())))
def Qb280 (g : Q_g) (a : (List UInt8)) : Option RT34 :=
 ((g (.c117 a)).bind fun (b : RT33) => (cond (!(decide (b.1.2.1.Code = 0))) (some (((GApiProg.mk ([] : List GApiNode) ([] : List GApiMark) ([] : List GApiType) ([] : List GApiRec) ([] : List GApiField) ([] : List GApiFn) ([] : List Int) ([] : List GApiVar) ([] : List GApiPoint)), b.1.2.1, ()), ())) ((g (.c277 b.1.1)).bind fun (c : RT34) => (some ((c.1.1, c.1.2.1, ()), ())))))
def Qb281 (g : Q_g) (a : GApiCode) : Option RT0 :=
 (cond (decide ((a.Ins.length : Int) > 1500)) (some ((true, ()), ())) (cond (decide ((a.Fns.length : Int) > 150)) (some ((true, ()), ())) (cond (decide ((a.Strs.length : Int) > 200)) (some ((true, ()), ())) (g (.c282 a 0)))))
def Qb282 (g : Q_g) (a : GApiCode) (b : Int) : Option RT0 :=
 (cond (decide (b < (a.Strs.length : Int))) ((getI a.Strs b).bind fun c => (cond (decide ((c.length : Int) > 300)) (some ((true, ()), ())) (g (.c282 a (w64 (b + 1)))))) (g (.c283)))
def Qb283 (g : Q_g)  : Option RT0 :=
 (some ((false, ()), ()))
def Qb284 (g : Q_g) (a : GApiCode) : Option RT0 :=
 (cond (decide ((a.Fns.length : Int) > 100)) (some ((false, ()), ())) (cond (decide ((a.Ins.length : Int) > 65536)) (some ((false, ()), ())) (cond (decide ((a.Strs.length : Int) > 65536)) (some ((false, ()), ())) (g (.c285 0 a 0)))))
def Qb285 (g : Q_g) (a : Int) (b : GApiCode) (c : Int) : Option RT0 :=
 (cond (decide (c < (b.Fns.length : Int))) ((getI b.Fns c).bind fun d => (cond (!(decide (d.At = a))) (some ((false, ()), ())) (cond (decide (d.Len < 0)) (some ((false, ()), ())) (cond (decide (d.Len > (w64 ((b.Ins.length : Int) - a)))) (some ((false, ()), ())) (cond (decide (d.Params < 0)) (some ((false, ()), ())) (cond (decide (d.Params > d.Slots)) (some ((false, ()), ())) (cond (decide (d.Slots > 200)) (some ((false, ()), ())) (cond (decide (d.Result < 0)) (some ((false, ()), ())) (cond (decide (d.Result > 1)) (some ((false, ()), ())) (g (.c285 (w64 (a + d.Len)) b (w64 (c + 1))))))))))))) (g (.c286 a b)))
def Qb286 (g : Q_g) (a : Int) (b : GApiCode) : Option RT0 :=
 (cond (!(decide (a = (b.Ins.length : Int)))) (some ((false, ()), ())) (g (.c287 b 0)))
def Qb287 (g : Q_g) (a : GApiCode) (b : Int) : Option RT0 :=
 (cond (decide (b < (a.Ins.length : Int))) ((getI a.Ins b).bind fun c => (cond (decide (c.Op < 1)) (some ((false, ()), ())) (cond (decide (c.Op > 26)) (some ((false, ()), ())) (cond (decide (c.Line < 0)) (some ((false, ()), ())) (cond (decide (c.Line > 2147483647)) (some ((false, ()), ())) (g (.c287 a (w64 (b + 1))))))))) (g (.c288 a)))
def Qb288 (g : Q_g) (a : GApiCode) : Option RT0 :=
 g (.c289 1048576 a 0)
def Qb289 (g : Q_g) (a : Int) (b : GApiCode) (c : Int) : Option RT0 :=
 (cond (decide (c < (b.Strs.length : Int))) ((getI b.Strs c).bind fun d => (cond (decide ((d.length : Int) > a)) (some ((false, ()), ())) (g (.c289 (w64 (a - (d.length : Int))) b (w64 (c + 1)))))) (g (.c290)))
def Qb290 (g : Q_g)  : Option RT0 :=
 (some ((true, ()), ()))
def Qb291 (g : Q_g) (a : GApiCode) (b : GApiEntry) (c : GApiIns) : Option RT2 :=
 (cond (decide (c.Op = 1)) (g (.c292 19 (decide (c.A ≥ 0)))) (cond (decide (c.Op = 17)) (g (.c292 19 (decide (c.A ≥ 0)))) (cond (decide (c.Op = 18)) (g (.c292 19 (decide (c.A ≥ 0)))) (cond (decide (c.Op = 21)) (g (.c292 19 (decide (c.A ≥ 0)))) (cond (decide (c.Op = 22)) (g (.c292 19 (decide (c.A ≥ 0)))) (cond (decide (c.Op = 7)) (g (.c293 b c)) (cond (decide (c.Op = 8)) (g (.c293 b c)) (cond (decide (c.Op = 5)) (cond (decide (c.A ≥ 0)) (g (.c292 19 (decide (c.A < (a.Strs.length : Int))))) (g (.c292 19 false))) (cond (decide (c.Op = 19)) (cond (decide (c.A ≥ 0)) (g (.c292 19 (decide (c.A < (a.Fns.length : Int))))) (g (.c292 19 false))) (cond (decide (c.Op = 3)) (cond (decide (c.A = 0)) (g (.c292 23 true)) (g (.c292 23 (decide (c.A = 1))))) (cond (decide (c.Op = 4)) (cond (decide (c.A ≥ 0)) (g (.c292 23 (decide (c.A < 8388608)))) (g (.c292 23 false))) (cond (decide (c.Op = 9)) (cond (decide (c.A = 12)) (g (.c292 23 true)) (g (.c292 23 (decide (c.A = 13))))) (cond (decide (c.Op = 10)) (cond (decide (c.A ≥ 1)) (g (.c292 23 (decide (c.A ≤ 11)))) (g (.c292 23 false))) (cond (decide (c.Op = 20)) (cond (decide (c.A ≥ 1)) (g (.c292 23 (decide (c.A ≤ 8)))) (g (.c292 23 false))) (cond (decide (c.Op = 11)) (g (.c294 b c)) (cond (decide (c.Op = 12)) (g (.c294 b c)) (cond (decide (c.Op = 13)) (g (.c294 b c)) (cond (decide (c.Op = 14)) (g (.c294 b c)) (g (.c292 19 true))))))))))))))))))))
def Qb292 (g : Q_g) (a : Int) (b : Bool) : Option RT2 :=
 (cond b (some ((0, ()), ())) (some ((a, ()), ())))
def Qb293 (g : Q_g) (a : GApiEntry) (b : GApiIns) : Option RT2 :=
 (cond (decide (b.A ≥ 0)) (g (.c292 19 (decide (b.A < a.Slots)))) (g (.c292 19 false)))
def Qb294 (g : Q_g) (a : GApiEntry) (b : GApiIns) : Option RT2 :=
 (cond (decide (b.A ≥ 0)) (g (.c292 17 (decide (b.A < a.Len)))) (g (.c292 17 false)))
def Qb295 (g : Q_g) (a : (List Int)) : Option RT2 :=
 (some (((a.length : Int), ()), ()))
def Qb296 (g : Q_g) (a : (List Int)) (b : Int) (c : Int) : Option RT0 :=
 ((getI a b).bind fun d => ((getI a c).bind fun e => (some (((decide (d < e)), ()), ()))))
def Qb297 (g : Q_g) (a : GVerifyFlow) (b : Int) : Option RT11 :=
 g (.c298 b a a.todo_)
def Qb298 (g : Q_g) (a : Int) (b : GVerifyFlow) (c : (List Int)) : Option RT11 :=
 ((okP (2 ≠ (0 : Int))).bind fun _ => (cond (decide ((w64 (Int.tdiv (w64 (a - 1)) 2)) = a)) (some ((()), ((GVerifyFlow.mk b.f_ b.depths_ c), ()))) ((g (.c296 c a (w64 (Int.tdiv (w64 (a - 1)) 2)))).bind fun (d : RT0) => (cond (!d.1.1) (some ((()), ((GVerifyFlow.mk b.f_ b.depths_ c), ()))) ((getI c (w64 (Int.tdiv (w64 (a - 1)) 2))).bind fun e => ((getI c a).bind fun (f : Int) => g (.c298 (w64 (Int.tdiv (w64 (a - 1)) 2)) b ((c.set (Int.toNat (w64 (Int.tdiv (w64 (a - 1)) 2))) f).set (Int.toNat a) e))))))))
def Qb299 (g : Q_g) (a : GVerifyFlow) (b : Int) : Option RT11 :=
 ((appD 8 a.todo_ ([b] : List Int)).bind fun c => (some ((()), ((GVerifyFlow.mk a.f_ a.depths_ c), ()))))
def Qb300 (g : Q_g) (a : GVerifyFlow) (b : Int) : Option RT11 :=
 ((g (.c299 a b)).bind fun (c : RT11) => ((g (.c295 c.2.1.todo_)).bind fun (d : RT2) => ((g (.c297 c.2.1 (w64 (d.1.1 - 1)))).bind fun (e : RT11) => (some ((()), (e.2.1, ()))))))
def Qb301 (g : Q_g) (a : GVerifyFlow) (b : Int) (c : Int) : Option RT10 :=
 (cond (decide (b ≥ a.f_.Len)) (some ((17, ()), (a, ()))) ((getI a.depths_ b).bind fun d => ((a.depths_[(Int.toNat b)]?).bind fun e => (cond (decide (e < 0)) ((getI a.depths_ b).bind fun f => ((a.depths_[(Int.toNat b)]?).bind fun h => ((setN a.depths_ (Int.toNat b) c).bind fun j => ((g (.c300 (GVerifyFlow.mk a.f_ j a.todo_) b)).bind fun (k : RT11) => (some ((0, ()), (k.2.1, ()))))))) ((getI a.depths_ b).bind fun l => ((a.depths_[(Int.toNat b)]?).bind fun m => (cond (!(decide (m = c))) (some ((18, ()), (a, ()))) (some ((0, ()), (a, ()))))))))))
def Qb302 (g : Q_g) (a : GVerifyFlow) (b : Int) (c : Int) : Option RT9 :=
 g (.c303 b c b a a.todo_)
def Qb303 (g : Q_g) (a : Int) (b : Int) (c : Int) (d : GVerifyFlow) (e : (List Int)) : Option RT9 :=
 (cond (decide ((w64 ((w64 (2 * c)) + 1)) ≥ b)) (g (.c304 a c d e)) (cond (decide ((w64 ((w64 (2 * c)) + 1)) < 0)) (g (.c304 a c d e)) (cond (decide ((w64 ((w64 ((w64 (2 * c)) + 1)) + 1)) < b)) ((g (.c296 e (w64 ((w64 ((w64 (2 * c)) + 1)) + 1)) (w64 ((w64 (2 * c)) + 1)))).bind fun (f : RT0) => (cond f.1.1 (g (.c305 a b c (w64 ((w64 ((w64 (2 * c)) + 1)) + 1)) d e)) (g (.c305 a b c (w64 ((w64 (2 * c)) + 1)) d e)))) (g (.c305 a b c (w64 ((w64 (2 * c)) + 1)) d e)))))
def Qb304 (g : Q_g) (a : Int) (b : Int) (c : GVerifyFlow) (d : (List Int)) : Option RT9 :=
 (some (((decide (b > a)), ()), ((GVerifyFlow.mk c.f_ c.depths_ d), ())))
def Qb305 (g : Q_g) (a : Int) (b : Int) (c : Int) (d : Int) (e : GVerifyFlow) (f : (List Int)) : Option RT9 :=
 ((g (.c296 f d c)).bind fun (h : RT0) => (cond (!h.1.1) (g (.c304 a c e f)) ((getI f c).bind fun j => ((getI f d).bind fun (k : Int) => g (.c303 a b d e ((f.set (Int.toNat c) k).set (Int.toNat d) j))))))
def Qb306 (g : Q_g) (a : GVerifyFlow) : Option RT10 :=
 ((getI a.todo_ (w64 ((a.todo_.length : Int) - 1))).bind fun b => ((a.todo_[(Int.toNat (w64 ((a.todo_.length : Int) - 1)))]?).bind fun c => ((okP (CutR (0 : Int) (w64 ((a.todo_.length : Int) - 1)) (a.todo_.length : Int))).bind fun _ => (some ((c, ()), ((GVerifyFlow.mk a.f_ a.depths_ (cutL a.todo_ (0 : Int) (w64 ((a.todo_.length : Int) - 1)))), ()))))))
def Qb307 (g : Q_g) (a : GVerifyFlow) : Option RT10 :=
 ((g (.c295 a.todo_)).bind fun (b : RT2) => ((getI a.todo_ 0).bind fun c => ((getI a.todo_ (w64 (b.1.1 - 1))).bind fun (d : Int) => ((g (.c302 (GVerifyFlow.mk a.f_ a.depths_ ((a.todo_.set (Int.toNat 0) d).set (Int.toNat (w64 (b.1.1 - 1))) c)) 0 (w64 (b.1.1 - 1)))).bind fun (e : RT9) => ((g (.c306 e.2.1)).bind fun (f : RT10) => (some ((f.1.1, ()), (f.2.1, ()))))))))
def Qb308 (g : Q_g) (a : GApiCode) (b : GApiIns) : Option RT15 :=
 (cond (decide (b.Op = 2)) (some ((0, 1, ()), ())) (cond (decide (b.Op = 3)) (some ((0, 1, ()), ())) (cond (decide (b.Op = 4)) (some ((0, 1, ()), ())) (cond (decide (b.Op = 5)) (some ((0, 1, ()), ())) (cond (decide (b.Op = 6)) (some ((0, 1, ()), ())) (cond (decide (b.Op = 7)) (some ((0, 1, ()), ())) (cond (decide (b.Op = 22)) (some ((0, 1, ()), ())) (cond (decide (b.Op = 8)) (some ((1, 0, ()), ())) (cond (decide (b.Op = 12)) (some ((1, 0, ()), ())) (cond (decide (b.Op = 23)) (some ((1, 0, ()), ())) (cond (decide (b.Op = 24)) (some ((1, 0, ()), ())) (cond (decide (b.Op = 13)) (some ((1, 0, ()), ())) (cond (decide (b.Op = 14)) (some ((1, 0, ()), ())) (cond (decide (b.Op = 25)) (some ((1, 0, ()), ())) (cond (decide (b.Op = 9)) (some ((1, 1, ()), ())) (cond (decide (b.Op = 17)) (some ((1, 1, ()), ())) (cond (decide (b.Op = 21)) (some ((1, 1, ()), ())) (cond (decide (b.Op = 10)) (some ((2, 1, ()), ())) (cond (decide (b.Op = 15)) (some ((2, 1, ()), ())) (cond (decide (b.Op = 16)) (some ((3, 0, ()), ())) (cond (decide (b.Op = 18)) (some ((2, 0, ()), ())) (cond (decide (b.Op = 19)) ((getI a.Fns b.A).bind fun c => ((getI a.Fns b.A).bind fun d => (some ((c.Params, d.Result, ()), ())))) (cond (decide (b.Op = 20)) (cond (decide (b.A = 7)) (some ((0, 1, ()), ())) (cond (decide (b.A = 5)) (some ((2, 1, ()), ())) (some ((1, 1, ()), ())))) (some ((0, 0, ()), ())))))))))))))))))))))))))
def Qb309 (g : Q_g) (a : GVerifyFlow) (b : GApiIns) (c : Int) : Option RT0 :=
 (cond (decide (b.Op = 1)) (some (((!(decide (c = 0))), ()), ())) (cond (decide (b.Op = 25)) (cond (!(decide (c = 1))) (some ((true, ()), ())) (some (((decide (a.f_.Result = 0)), ()), ()))) (cond (decide (b.Op = 26)) (cond (!(decide (c = 0))) (some ((true, ()), ())) (some (((decide (a.f_.Result = 1)), ()), ()))) (some ((false, ()), ())))))
def Qb310 (g : Q_g) (a : GVerifyFlow) (b : GApiCode) (c : Int) : Option RT10 :=
 ((getI b.Ins (w64 (a.f_.At + c))).bind fun d => ((getI a.depths_ c).bind fun e => ((a.depths_[(Int.toNat c)]?).bind fun f => ((g (.c308 b d)).bind fun (h : RT15) => (cond (decide (h.1.1 > f)) (some ((18, ()), (a, ()))) ((g (.c309 a d f)).bind fun (j : RT0) => (cond j.1.1 (some ((18, ()), (a, ()))) (cond (decide (d.Op = 11)) (g (.c311 c f h d a)) (cond (decide (d.Op = 12)) (g (.c311 c f h d a)) (cond (decide (d.Op = 13)) (g (.c312 c f h d a)) (cond (decide (d.Op = 14)) (g (.c312 c f h d a)) (g (.c313 c f h 0 d a)))))))))))))
def Qb311 (g : Q_g) (a : Int) (b : Int) (c : RT15) (d : GApiIns) (e : GVerifyFlow) : Option RT10 :=
 ((g (.c301 e d.A (w64 (b - c.1.1)))).bind fun (f : RT10) => g (.c313 a b c f.1.1 d f.2.1))
def Qb312 (g : Q_g) (a : Int) (b : Int) (c : RT15) (d : GApiIns) (e : GVerifyFlow) : Option RT10 :=
 ((g (.c301 e d.A b)).bind fun (f : RT10) => g (.c313 a b c f.1.1 d f.2.1))
def Qb313 (g : Q_g) (a : Int) (b : Int) (c : RT15) (d : Int) (e : GApiIns) (f : GVerifyFlow) : Option RT10 :=
 (cond (!(decide (d = 0))) (some ((d, ()), (f, ()))) (cond (decide (e.Op = 11)) (some ((d, ()), (f, ()))) (cond (decide (e.Op = 25)) (some ((d, ()), (f, ()))) (cond (decide (e.Op = 26)) (some ((d, ()), (f, ()))) ((g (.c301 f (w64 (a + 1)) (w64 ((w64 (b - c.1.1)) + c.1.2.1)))).bind fun (h : RT10) => (some ((h.1.1, ()), (h.2.1, ()))))))))
def Qb314 (g : Q_g) (a : GApiCode) (b : GApiEntry) : Option RT25 :=
 ((okP (MakeOb 8 b.Len)).bind fun _ => g (.c315 b 0 a (List.replicate (Int.toNat b.Len) (0 : Int))))
def Qb315 (g : Q_g) (a : GApiEntry) (b : Int) (c : GApiCode) (d : (List Int)) : Option RT25 :=
 (cond (decide (b < ((List.replicate (Int.toNat a.Len) (0 : Int)).length : Int))) ((getI d b).bind fun e => ((d[(Int.toNat b)]?).bind fun f => ((setN d (Int.toNat b) (-1)).bind fun h => g (.c315 a (w64 (b + 1)) c h)))) (g (.c316 c a d)))
def Qb316 (g : Q_g) (a : GApiCode) (b : GApiEntry) (c : (List Int)) : Option RT25 :=
 ((g (.c301 (GVerifyFlow.mk b c ([] : List Int)) 0 0)).bind fun (d : RT10) => (cond (!(decide (d.1.1 = 0))) (some ((([] : List Int), d.1.1, 0, ()), ())) (g (.c317 a d.2.1))))
def Qb317 (g : Q_g) (a : GApiCode) (b : GVerifyFlow) : Option RT25 :=
 ((g (.c295 b.todo_)).bind fun (c : RT2) => (cond (decide (c.1.1 > 0)) ((g (.c307 b)).bind fun (d : RT10) => ((g (.c310 d.2.1 a d.1.1)).bind fun (e : RT10) => (cond (!(decide (e.1.1 = 0))) (some ((([] : List Int), e.1.1, d.1.1, ()), ())) (g (.c317 a e.2.1))))) (g (.c318 b))))
def Qb318 (g : Q_g) (a : GVerifyFlow) : Option RT25 :=
 (some ((a.depths_, 0, 0, ()), ()))
def Qb319 (g : Q_g) (a : GApiCode) : Option RT26 :=
 ((g (.c284 a)).bind fun (b : RT0) => (cond (!b.1.1) (some ((1, 0, 0, ()), ())) (g (.c320 a 0))))
def Qb320 (g : Q_g) (a : GApiCode) (b : Int) : Option RT26 :=
 (cond (decide (b < (a.Fns.length : Int))) ((getI a.Fns b).bind fun c => ((okP (CutR c.At (w64 (c.At + c.Len)) (a.Ins.length : Int))).bind fun _ => g (.c321 b a b c 0))) (g (.c322 a)))
def Qb321 (g : Q_g) (a : Int) (b : GApiCode) (c : Int) (d : GApiEntry) (e : Int) : Option RT26 :=
 (cond (decide (e < ((cutL b.Ins d.At (w64 (d.At + d.Len))).length : Int))) ((getI (cutL b.Ins d.At (w64 (d.At + d.Len))) e).bind fun f => ((g (.c291 b d f)).bind fun (h : RT2) => (cond (!(decide (h.1.1 = 0))) (some ((h.1.1, a, e, ()), ())) (g (.c321 a b c d (w64 (e + 1))))))) (g (.c323 b c)))
def Qb322 (g : Q_g) (a : GApiCode) : Option RT26 :=
 g (.c324 a 0)
def Qb323 (g : Q_g) (a : GApiCode) (b : Int) : Option RT26 :=
 g (.c320 a (w64 (b + 1)))
def Qb324 (g : Q_g) (a : GApiCode) (b : Int) : Option RT26 :=
 (cond (decide (b < (a.Fns.length : Int))) ((getI a.Fns b).bind fun c => ((g (.c314 a c)).bind fun (d : RT25) => (cond (!(decide (d.1.2.1 = 0))) (some ((d.1.2.1, b, d.1.2.2.1, ()), ())) (g (.c324 a (w64 (b + 1))))))) (g (.c325)))
def Qb325 (g : Q_g)  : Option RT26 :=
 (some ((0, 0, 0, ()), ()))
def Qb326 (g : Q_g) (a : GApiCode) (b : Int) : Option RT36 :=
 ((g (.c319 a)).bind fun (c : RT26) => (cond (!(decide (c.1.1 = 0))) (some ((([] : List Int), c.1.1, ()), ())) (cond (decide (b < 0)) (some ((([] : List Int), 20, ()), ())) (cond (decide (b ≥ (a.Fns.length : Int))) (some ((([] : List Int), 20, ()), ())) ((getI a.Fns b).bind fun d => ((g (.c314 a d)).bind fun (e : RT25) => (some ((e.1.1, 0, ()), ()))))))))
def Qb327 (g : Q_g) (a : GGenMaker) (b : Int) : Option RT12 :=
 g (.c328 b a (w64 (b + 1)) ([] : List Int))
def Qb328 (g : Q_g) (a : Int) (b : GGenMaker) (c : Int) (d : (List Int)) : Option RT12 :=
 ((getI b.p_.Nodes a).bind fun e => (cond (decide (c ≤ (w64 (a + e.Size)))) ((appD 8 d ([c] : List Int)).bind fun f => ((getI b.p_.Nodes c).bind fun h => g (.c328 a b (w64 (c + (w64 (1 + h.Size)))) f))) (g (.c329 b d))))
def Qb329 (g : Q_g) (a : GGenMaker) (b : (List Int)) : Option RT12 :=
 (some ((b, ()), (a, ())))
def Qb330 (g : Q_g) (a : GGenMaker) (b : Int) (c : Int) (d : Int) : Option RT1 :=
 ((getI a.p_.Nodes d).bind fun e => ((appD 24 a.c_.Ins ([(GApiIns.mk b c e.Line)] : List GApiIns)).bind fun f => (some (((w64 ((w64 ((f.length : Int) - 1)) - a.from_)), ()), ((GGenMaker.mk a.p_ (GApiCode.mk f a.c_.Fns a.c_.Strs) a.from_ a.texts_), ())))))
def Qb331 (g : Q_g) (a : GGenMaker) : Option RT2 :=
 (some (((w64 ((a.c_.Ins.length : Int) - a.from_)), ()), ()))
def Qb332 (g : Q_g) (a : GGenMaker) (b : Int) : Option RT13 :=
 ((g (.c331 a)).bind fun (c : RT2) => ((getI a.c_.Ins (w64 (a.from_ + b))).bind fun d => ((a.c_.Ins[(Int.toNat (w64 (a.from_ + b)))]?).bind fun e => ((a.c_.Ins[(Int.toNat (w64 (a.from_ + b)))]?).bind fun f => ((setN a.c_.Ins (Int.toNat (w64 (a.from_ + b))) (GApiIns.mk f.Op c.1.1 f.Line)).bind fun h => (some ((()), ((GGenMaker.mk a.p_ (GApiCode.mk h a.c_.Fns a.c_.Strs) a.from_ a.texts_), ()))))))))
def Qb333 (g : Q_g) (a : GGenMaker) (b : (List UInt8)) : Option RT1 :=
 (cond (hasG eqS a.texts_ b) ((getG eqS a.texts_ b).bind fun (c : Int) => g (.c334 b c true a)) (g (.c334 b 0 false a)))
def Qb334 (g : Q_g) (a : (List UInt8)) (b : Int) (c : Bool) (d : GGenMaker) : Option RT1 :=
 (cond (!c) ((appD 16 d.c_.Strs ([a] : List (List UInt8))).bind fun e => (some (((d.c_.Strs.length : Int), ()), ((GGenMaker.mk d.p_ (GApiCode.mk d.c_.Ins d.c_.Fns e) d.from_ (setG eqS d.texts_ a (d.c_.Strs.length : Int))), ())))) (some ((b, ()), (d, ()))))
def Qb335 (g : Q_g) (a : GGenMaker) (b : GApiNode) (c : GApiMark) : Option RT14 :=
 (cond (decide (b.Kind = 21)) (some ((2, b.Num, ()), (a, ()))) (cond (decide (b.Kind = 22)) (some ((4, b.Num, ()), (a, ()))) (cond (decide (b.Kind = 23)) ((g (.c333 a b.Text)).bind fun (d : RT1) => (some ((5, d.1.1, ()), (d.2.1, ())))) (cond (decide (b.Kind = 24)) (some ((3, b.Num, ()), (a, ()))) (cond (decide (b.Kind = 26)) (some ((7, c.Ref, ()), (a, ()))) (cond (decide (b.Kind = 27)) (cond (decide (c.Ref < 0)) (some ((20, (w64 (0 - c.Ref)), ()), (a, ()))) (some ((19, c.Ref, ()), (a, ())))) (cond (decide (b.Kind = 28)) (some ((15, 0, ()), (a, ()))) (cond (decide (b.Kind = 29)) (some ((17, c.Ref, ()), (a, ()))) (cond (decide (b.Kind = 30)) (some ((9, b.Num, ()), (a, ()))) (cond (decide (b.Kind = 31)) (some ((10, b.Num, ()), (a, ()))) (cond (decide (b.Kind = 32)) ((getI a.p_.Types c.Type_).bind fun e => (cond (decide (e.Kind = 6)) (some ((22, e.Of, ()), (a, ()))) (some ((21, e.Of, ()), (a, ()))))) (some ((6, 0, ()), (a, ()))))))))))))))
end
end Go.Proofs.YtabmahknlebhpaaGreat
