/- Parts of the proof. -/
import Derived.Test.YtcmpcbpdnaodmaaDoorLsEvTab
import Derived.Test.YtcmpcbpdnaodmaaDoorLsLcText
namespace Go.Proofs.YtcmpcbpdnaodmaaDoor
open Go.RowKit
set_option linter.unusedVariables false
set_option maxRecDepth 100000
set_option maxHeartbeats 4000000
abbrev RT0 : Type := ((Bool × Unit) × (Unit))
abbrev RT45 : Type := (((List UInt8) × Unit) × (Unit))
inductive Q_C where
  | c0 (a : GApiCode)
  | c1 (a : GApiCode) (b : Int)
  | c2
  | c3 (a : GApiCode)
  | c4 (a : Int) (b : GApiCode) (c : Int)
  | c5 (a : Int) (b : GApiCode)
  | c6 (a : Int) (b : Int) (c : GApiCode) (d : Int)
  | c7 (a : Int) (b : Int) (c : GApiCode)
  | c8 (a : Int) (b : Int) (c : GApiCode) (d : Int)
  | c9 (a : Int) (b : Int) (c : GApiCode)
  | c10 (a : Int)
  | c11 (a : Int)
  | c12 (a : GApiCode) (b : Int)
  | c13 (a : (List UInt8)) (b : Int) (c : GApiCode) (d : GApiEntry)
  | c14 (a : (List UInt8))
def Q_T : Q_C → Type
  | .c0 .. | .c1 .. | .c2 .. | .c3 .. | .c4 .. | .c5 .. | .c6 .. | .c7 .. | .c8 .. | .c9 .. => RT0
  | .c10 .. | .c11 .. | .c12 .. | .c13 .. | .c14 .. => RT45
noncomputable def Q_h11 : Hand tab Q_lt Tryd.prog := mkHand 11 (α := ((Int × Unit) × Unit)) (β := RT45) (fun x => (xr01_Text x.1.1).bind fun r => some ((r, ()), ())) (ok := fun x r h => by
  obtain ⟨d, hd, h⟩ := bind_ok h
  cases h
  exact Eq.mp (by kernel_rfl) (fnio_of (xr01_Text_ok hd) (by kernel_rfl)))
noncomputable def Q_hand : (i : Ix tab Q_lt) → Option (Bx tab Q_lt i) := handL (P := Tryd.prog) [Q_h11]
theorem Q_hok (l : Nat) (x : Vars tab (Q_lt.lb l).sh) (r : Res tab (Q_lt.rh (Q_lt.lb l).v)) (_ : Q_lt.hd l = true) (h : Q_hand ⟨l, x⟩ = some r) : MeanH Tryd.prog Q_lt l x r := handL_ok _ l x r h
def Q_sw : List FuncId := []
noncomputable def Q_B := EVB (B := tab) Tryd.prog Q_lt Q_hand (actsA Tryd.prog Q_lt dofF Q_sw (tblF Q_io) (tblF Q_pu) (tblF Q_lo)) 1000
theorem Q_q (i : Ix tab Q_lt) : fixD Q_B i = Q_B (fixD Q_B) i := fix_eq (fun i => fin_EVB _ _ _ _ _ _ _ _ i) i
noncomputable def Q_ix : Q_C → Ix tab Q_lt
  | .c0 a => mkI 0 ((a, ()), ())
  | .c1 a b => mkI 1 (((), (a.Strs.length : Int), b, ()), (a, ()))
  | .c2 => mkI 2 ((), ())
  | .c3 a => mkI 3 ((a, ()), ())
  | .c4 a b c => mkI 4 (((), a, (b.Fns.length : Int), c, ()), (b, ()))
  | .c5 a b => mkI 5 (((), a, ()), (b, ()))
  | .c6 a b c d => mkI 6 (((), a, b, (c.Strs.length : Int), d, ()), (c, ()))
  | .c7 a b c => mkI 7 (((), a, b, ()), (c, ()))
  | .c8 a b c d => mkI 8 (((), a, b, (c.Ins.length : Int), d, ()), (c, ()))
  | .c9 a b c => mkI 9 (((), a, b, ()), (c, ()))
  | .c10 a => mkI 10 ((a, ()), ())
  | .c11 a => mkI 11 ((a, ()), ())
  | .c12 a b => mkI 12 ((a, b, ()), ())
  | .c13 a b c d => mkI 13 (((), a, (), b, ()), (c, d, ()))
  | .c14 a => mkI 14 ((a, ()), ())
theorem Q_hT (c : Q_C) : Bx tab Q_lt (Q_ix c) = Q_T c := by cases c <;> kernel_rfl
noncomputable def Q_of (g : Gt tab Q_lt) (c : Q_C) : Option (Q_T c) := outI (g (Q_ix c)) (Q_hT c)
noncomputable def Q_nm : (c : Q_C) → Option (Q_T c) := Q_of (fixD Q_B)
theorem Q_qn (c : Q_C) : Q_nm c = Q_of (Q_B (fixD Q_B)) c := outq Q_q _ (Q_hT c)
def Qk0 := ([([] : List UInt8), ([112, 111, 105, 110, 116] : List UInt8), ([105, 110, 116] : List UInt8), ([98, 111, 111, 108] : List UInt8), ([99, 111, 109, 112] : List UInt8), ([115, 116, 114] : List UInt8), ([110, 105, 108] : List UInt8), ([108, 111, 97, 100] : List UInt8), ([115, 116, 111, 114, 101] : List UInt8), ([117, 110] : List UInt8), ([98, 105, 110] : List UInt8), ([106, 117, 109, 112] : List UInt8), ([102, 97, 108, 115, 101] : List UInt8), ([97, 110, 100] : List UInt8), ([111, 114] : List UInt8), ([105, 110, 100, 101, 120] : List UInt8), ([112, 117, 116] : List UInt8), ([102, 105, 101, 108, 100] : List UInt8), ([112, 117, 116, 102] : List UInt8), ([99, 97, 108, 108] : List UInt8), ([98, 117, 105, 108, 116] : List UInt8), ([108, 105, 115, 116] : List UInt8), ([114, 101, 99] : List UInt8), ([112, 114, 105, 110, 116] : List UInt8), ([112, 111, 112] : List UInt8), ([114, 101, 116, 117, 114, 110] : List UInt8), ([108, 101, 97, 118, 101] : List UInt8)] : List (List UInt8))
abbrev Q_g := (i : Q_C) → Option (Q_T i)
end Go.Proofs.YtcmpcbpdnaodmaaDoor
namespace Go.Proofs.YtcmpcbpdnaodmaaDoor
open Go.RowKit
set_option linter.unusedVariables false
set_option maxRecDepth 100000
set_option maxHeartbeats 4000000
noncomputable section
def Qb0 (g : Q_g) (a : GApiCode) : Option RT0 :=
 (cond (decide ((a.Ins.length : Int) > 1500)) (some ((true, ()), ())) (cond (decide ((a.Fns.length : Int) > 150)) (some ((true, ()), ())) (cond (decide ((a.Strs.length : Int) > 200)) (some ((true, ()), ())) (g (.c1 a 0)))))
def Qb1 (g : Q_g) (a : GApiCode) (b : Int) : Option RT0 :=
 (cond (decide (b < (a.Strs.length : Int))) ((getI a.Strs b).bind fun c => (cond (decide ((c.length : Int) > 300)) (some ((true, ()), ())) (g (.c1 a (w64 (b + 1)))))) (g (.c2)))
def Qb2 (g : Q_g)  : Option RT0 :=
 (some ((false, ()), ()))
def Qb3 (g : Q_g) (a : GApiCode) : Option RT0 :=
 (cond (decide ((a.Fns.length : Int) > 100)) (some ((false, ()), ())) (cond (decide ((a.Ins.length : Int) > 65536)) (some ((false, ()), ())) (cond (decide ((a.Strs.length : Int) > 65536)) (some ((false, ()), ())) (g (.c4 0 a 0)))))
def Qb4 (g : Q_g) (a : Int) (b : GApiCode) (c : Int) : Option RT0 :=
 (cond (decide (c < (b.Fns.length : Int))) ((getI b.Fns c).bind fun d => (cond (!(decide (d.At = a))) (some ((false, ()), ())) (cond (decide (d.Len < 0)) (some ((false, ()), ())) (cond (decide (d.Len > (b.Ins.length : Int))) (some ((false, ()), ())) (cond (decide (d.Params < 0)) (some ((false, ()), ())) (cond (decide (d.Params > d.Slots)) (some ((false, ()), ())) (cond (decide (d.Slots > 200)) (some ((false, ()), ())) (cond (!(decide (d.Result = 0))) (cond (!(decide (d.Result = 1))) (some ((false, ()), ())) (g (.c4 (w64 (a + d.Len)) b (w64 (c + 1))))) (g (.c4 (w64 (a + d.Len)) b (w64 (c + 1)))))))))))) (g (.c5 a b)))
def Qb5 (g : Q_g) (a : Int) (b : GApiCode) : Option RT0 :=
 g (.c6 a 0 b 0)
def Qb6 (g : Q_g) (a : Int) (b : Int) (c : GApiCode) (d : Int) : Option RT0 :=
 (cond (decide (d < (c.Strs.length : Int))) ((getI c.Strs d).bind fun e => (cond (decide ((e.length : Int) > 1048576)) (some ((false, ()), ())) ((getI c.Strs d).bind fun f => g (.c6 a (w64 (b + (f.length : Int))) c (w64 (d + 1)))))) (g (.c7 a b c)))
def Qb7 (g : Q_g) (a : Int) (b : Int) (c : GApiCode) : Option RT0 :=
 g (.c8 a b c 0)
def Qb8 (g : Q_g) (a : Int) (b : Int) (c : GApiCode) (d : Int) : Option RT0 :=
 (cond (decide (d < (c.Ins.length : Int))) ((getI c.Ins d).bind fun e => (cond (decide (e.Op = 0)) (some ((false, ()), ())) (cond (decide (e.Op > 26)) (some ((false, ()), ())) (cond (decide (e.Line < 0)) (some ((false, ()), ())) (cond (decide (e.Line > 2147483647)) (some ((false, ()), ())) (g (.c8 a b c (w64 (d + 1))))))))) (g (.c9 a b c)))
def Qb9 (g : Q_g) (a : Int) (b : Int) (c : GApiCode) : Option RT0 :=
 (cond (decide (a = (c.Ins.length : Int))) (some (((decide (b ≤ 1048576)), ()), ())) (some ((false, ()), ())))
def Qb10 (g : Q_g) (a : Int) : Option RT45 :=
 (cond (decide (a > 26)) (some ((([] : List UInt8), ()), ())) ((getI Qk0 a).bind fun b => ((Qk0[(Int.toNat a)]?).bind fun c => (some ((c, ()), ())))))
def Qb11 (g : Q_g) (a : Int) : Option RT45 :=
 (xr01_Text a).bind fun r => (some ((r, ()), ()) : Option RT45)
def Qb12 (g : Q_g) (a : GApiCode) (b : Int) : Option RT45 :=
 ((getI a.Fns b).bind fun c => g (.c13 ([] : List UInt8) 0 a c))
def Qb13 (g : Q_g) (a : (List UInt8)) (b : Int) (c : GApiCode) (d : GApiEntry) : Option RT45 :=
 (cond (decide (b < d.Len)) ((getI c.Ins (w64 (d.At + b))).bind fun e => ((g (.c11 b)).bind fun (f : RT45) => ((okP (CatOb f.1.1 ([32] : List UInt8))).bind fun _ => ((g (.c10 e.Op)).bind fun (h : RT45) => ((okP (CatOb (f.1.1 ++ ([32] : List UInt8)) h.1.1)).bind fun _ => ((okP (CatOb a ((f.1.1 ++ ([32] : List UInt8)) ++ h.1.1))).bind fun _ => (cond (decide (e.Op = 6)) ((okP (CatOb (a ++ ((f.1.1 ++ ([32] : List UInt8)) ++ h.1.1)) ([10] : List UInt8))).bind fun _ => g (.c13 ((a ++ ((f.1.1 ++ ([32] : List UInt8)) ++ h.1.1)) ++ ([10] : List UInt8)) (w64 (b + 1)) c d)) (cond (decide (e.Op = 15)) ((okP (CatOb (a ++ ((f.1.1 ++ ([32] : List UInt8)) ++ h.1.1)) ([10] : List UInt8))).bind fun _ => g (.c13 ((a ++ ((f.1.1 ++ ([32] : List UInt8)) ++ h.1.1)) ++ ([10] : List UInt8)) (w64 (b + 1)) c d)) (cond (decide (e.Op = 16)) ((okP (CatOb (a ++ ((f.1.1 ++ ([32] : List UInt8)) ++ h.1.1)) ([10] : List UInt8))).bind fun _ => g (.c13 ((a ++ ((f.1.1 ++ ([32] : List UInt8)) ++ h.1.1)) ++ ([10] : List UInt8)) (w64 (b + 1)) c d)) (cond (decide (e.Op = 23)) ((okP (CatOb (a ++ ((f.1.1 ++ ([32] : List UInt8)) ++ h.1.1)) ([10] : List UInt8))).bind fun _ => g (.c13 ((a ++ ((f.1.1 ++ ([32] : List UInt8)) ++ h.1.1)) ++ ([10] : List UInt8)) (w64 (b + 1)) c d)) (cond (decide (e.Op = 24)) ((okP (CatOb (a ++ ((f.1.1 ++ ([32] : List UInt8)) ++ h.1.1)) ([10] : List UInt8))).bind fun _ => g (.c13 ((a ++ ((f.1.1 ++ ([32] : List UInt8)) ++ h.1.1)) ++ ([10] : List UInt8)) (w64 (b + 1)) c d)) (cond (decide (e.Op = 25)) ((okP (CatOb (a ++ ((f.1.1 ++ ([32] : List UInt8)) ++ h.1.1)) ([10] : List UInt8))).bind fun _ => g (.c13 ((a ++ ((f.1.1 ++ ([32] : List UInt8)) ++ h.1.1)) ++ ([10] : List UInt8)) (w64 (b + 1)) c d)) (cond (decide (e.Op = 26)) ((okP (CatOb (a ++ ((f.1.1 ++ ([32] : List UInt8)) ++ h.1.1)) ([10] : List UInt8))).bind fun _ => g (.c13 ((a ++ ((f.1.1 ++ ([32] : List UInt8)) ++ h.1.1)) ++ ([10] : List UInt8)) (w64 (b + 1)) c d)) ((g (.c11 e.A)).bind fun (j : RT45) => ((okP (CatOb ([32] : List UInt8) j.1.1)).bind fun _ => ((okP (CatOb (a ++ ((f.1.1 ++ ([32] : List UInt8)) ++ h.1.1)) (([32] : List UInt8) ++ j.1.1))).bind fun _ => ((okP (CatOb ((a ++ ((f.1.1 ++ ([32] : List UInt8)) ++ h.1.1)) ++ (([32] : List UInt8) ++ j.1.1)) ([10] : List UInt8))).bind fun _ => g (.c13 (((a ++ ((f.1.1 ++ ([32] : List UInt8)) ++ h.1.1)) ++ (([32] : List UInt8) ++ j.1.1)) ++ ([10] : List UInt8)) (w64 (b + 1)) c d)))))))))))))))))) (g (.c14 a)))
def Qb14 (g : Q_g) (a : (List UInt8)) : Option RT45 :=
 (some ((a, ()), ()))
end
end Go.Proofs.YtcmpcbpdnaodmaaDoor
namespace Go.Proofs.YtcmpcbpdnaodmaaDoor
open Go.RowKit
set_option linter.unusedVariables false
set_option maxRecDepth 100000
set_option maxHeartbeats 4000000
theorem Qe0 (g : Gt tab Q_lt) a : Q_of (Q_B g) (.c0 a) = Qb0 (Q_of g) a := by kernel_rfl
theorem Qe1 (g : Gt tab Q_lt) a b : Q_of (Q_B g) (.c1 a b) = Qb1 (Q_of g) a b := by kernel_rfl
theorem Qe2 (g : Gt tab Q_lt)  : Q_of (Q_B g) (.c2) = Qb2 (Q_of g) := by kernel_rfl
theorem Qe3 (g : Gt tab Q_lt) a : Q_of (Q_B g) (.c3 a) = Qb3 (Q_of g) a := by kernel_rfl
theorem Qe4 (g : Gt tab Q_lt) a b c : Q_of (Q_B g) (.c4 a b c) = Qb4 (Q_of g) a b c := by kernel_rfl
theorem Qe5 (g : Gt tab Q_lt) a b : Q_of (Q_B g) (.c5 a b) = Qb5 (Q_of g) a b := by kernel_rfl
theorem Qe6 (g : Gt tab Q_lt) a b c d : Q_of (Q_B g) (.c6 a b c d) = Qb6 (Q_of g) a b c d := by kernel_rfl
theorem Qe7 (g : Gt tab Q_lt) a b c : Q_of (Q_B g) (.c7 a b c) = Qb7 (Q_of g) a b c := by kernel_rfl
theorem Qe8 (g : Gt tab Q_lt) a b c d : Q_of (Q_B g) (.c8 a b c d) = Qb8 (Q_of g) a b c d := by kernel_rfl
theorem Qe9 (g : Gt tab Q_lt) a b c : Q_of (Q_B g) (.c9 a b c) = Qb9 (Q_of g) a b c := by kernel_rfl
theorem Qe10 (g : Gt tab Q_lt) a : Q_of (Q_B g) (.c10 a) = Qb10 (Q_of g) a := by kernel_rfl
theorem Qe11 (g : Gt tab Q_lt) a : Q_of (Q_B g) (.c11 a) = Qb11 (Q_of g) a := by kernel_rfl
theorem Qe12 (g : Gt tab Q_lt) a b : Q_of (Q_B g) (.c12 a b) = Qb12 (Q_of g) a b := by kernel_rfl
theorem Qe13 (g : Gt tab Q_lt) a b c d : Q_of (Q_B g) (.c13 a b c d) = Qb13 (Q_of g) a b c d := by kernel_rfl
theorem Qe14 (g : Gt tab Q_lt) a : Q_of (Q_B g) (.c14 a) = Qb14 (Q_of g) a := by kernel_rfl
end Go.Proofs.YtcmpcbpdnaodmaaDoor
