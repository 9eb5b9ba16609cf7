/- Parts of the proof. -/
import Derived.Test.YtcmpcbpdnaodmaaDoorLsEvTab
namespace Go.Proofs.YtcmpcbpdnaodmaaDoor
open Go.RowKit
set_option linter.unusedVariables false
set_option maxRecDepth 100000
set_option maxHeartbeats 4000000
def Ms0 : SV := .one (.dat (.int .i64))
def Ms1 : SV := .one (.ptr 1 0)
def M_lb0 : List Lb := [⟨0, [], ⟨[(0, .st 2 [] 0)], []⟩⟩,
  ⟨0, [0, 1, 0, 1, 1, 1], ⟨[(1, Ms1), (3, Ms0), (28, .one (.dat (.sl (.nat 1)))), (29, Ms0), (30, Ms0)], [.st 1 26 2 [] 100100]⟩⟩,
  ⟨0, [1, 1, 1, 1], ⟨[(1, Ms1), (3, Ms0)], [.st 1 26 2 [] 100100]⟩⟩,
  ⟨0, [0, 1, 0, 1, 1, 1, 1, 1], ⟨[(1, Ms1), (91, .one (.dat (.sl (.nat 0)))), (92, Ms0), (93, Ms0)], [.st 1 26 2 [] 100100]⟩⟩,
  ⟨0, [1, 1, 1, 1, 1, 1], ⟨[(1, Ms1)], [.st 1 26 2 [] 100100]⟩⟩,
  ⟨0, [0, 1, 0, 1, 1, 1, 1, 1, 1, 1], ⟨[(8, Ms0), (117, .one (.dat (.sl (.str)))), (118, Ms0), (119, Ms0)], []⟩⟩,
  ⟨0, [1, 1, 1, 1, 1, 1, 1, 1], ⟨[], []⟩⟩]
def M_lbs : List (List Lb) := [M_lb0]
def M_v0 : List VR := [⟨12, ⟨[.one (.dat (.bool))], []⟩, [([0, 1, 0, 1, 1, 1], 1), ([1, 1, 1, 1], 2), ([0, 1, 0, 1, 1, 1, 1, 1], 3), ([1, 1, 1, 1, 1, 1], 4), ([0, 1, 0, 1, 1, 1, 1, 1, 1, 1], 5), ([1, 1, 1, 1, 1, 1, 1, 1], 6)], [], []⟩]
def M_vs : List (List VR) := [M_v0]
def M_lt : LT := mkLT M_lbs M_vs []
def M_io : List (FuncId × List Nat) := []
def M_pu : List (FuncId × List Nat) := [(12, [0])]
def M_lo : List (FuncId × List Nat) := []
end Go.Proofs.YtcmpcbpdnaodmaaDoor
namespace Go.Proofs.YtcmpcbpdnaodmaaDoor
open Go.RowKit
set_option linter.unusedVariables false
set_option maxRecDepth 100000
set_option maxHeartbeats 4000000
abbrev MRT0 : Type := ((Bool × Unit) × (Unit))
inductive M_C where
  | c0 (a : GApiCode)
  | c1 (a : Int) (b : GApiCode) (c : Int)
  | c2 (a : Int) (b : GApiCode)
  | c3 (a : GApiCode) (b : Int)
  | c4 (a : GApiCode)
  | c5 (a : Int) (b : GApiCode) (c : Int)
  | c6
def M_T : M_C → Type
  | .c0 .. | .c1 .. | .c2 .. | .c3 .. | .c4 .. | .c5 .. | .c6 .. => MRT0
def M_hand : (i : Ix tab M_lt) → Option (Bx tab M_lt i) := fun _ => none
theorem M_hok (l : Nat) (x : Vars tab (M_lt.lb l).sh) (r : Res tab (M_lt.rh (M_lt.lb l).v)) (_ : M_lt.hd l = true) (h : M_hand ⟨l, x⟩ = some r) : MeanH Tryd.prog M_lt l x r := by cases h
def M_sw : List FuncId := []
noncomputable def M_B := EVB (B := tab) Tryd.prog M_lt M_hand (actsA Tryd.prog M_lt dofF M_sw (tblF M_io) (tblF M_pu) (tblF M_lo)) 1000
theorem M_q (i : Ix tab M_lt) : fixD M_B i = M_B (fixD M_B) i := fix_eq (fun i => fin_EVB _ _ _ _ _ _ _ _ i) i
noncomputable def M_ix : M_C → Ix tab M_lt
  | .c0 a => mkI 0 ((a, ()), ())
  | .c1 a b c => mkI 1 (((), a, b.Fns, (b.Fns.length : Int), c, ()), (b, ()))
  | .c2 a b => mkI 2 (((), a, ()), (b, ()))
  | .c3 a b => mkI 3 (((), a.Ins, (a.Ins.length : Int), b, ()), (a, ()))
  | .c4 a => mkI 4 (((), ()), (a, ()))
  | .c5 a b c => mkI 5 ((a, b.Strs, (b.Strs.length : Int), c, ()), ())
  | .c6 => mkI 6 ((), ())
theorem M_hT (c : M_C) : Bx tab M_lt (M_ix c) = M_T c := by cases c <;> kernel_rfl
noncomputable def M_of (g : Gt tab M_lt) (c : M_C) : Option (M_T c) := outI (g (M_ix c)) (M_hT c)
noncomputable def M_nm : (c : M_C) → Option (M_T c) := M_of (fixD M_B)
theorem M_qn (c : M_C) : M_nm c = M_of (M_B (fixD M_B)) c := outq M_q _ (M_hT c)
abbrev M_g := (i : M_C) → Option (M_T i)
end Go.Proofs.YtcmpcbpdnaodmaaDoor
namespace Go.Proofs.YtcmpcbpdnaodmaaDoor
open Go.RowKit
set_option linter.unusedVariables false
set_option maxRecDepth 100000
set_option maxHeartbeats 4000000
noncomputable section
def Mb0 (g : M_g) (a : GApiCode) : Option MRT0 :=
 (cond (decide ((a.Fns.length : Int) > 100)) (some ((false, ()), ())) (cond (decide ((a.Ins.length : Int) > 65536)) (some ((false, ()), ())) (cond (decide ((a.Strs.length : Int) > 65536)) (some ((false, ()), ())) (g (.c1 0 a 0)))))
def Mb1 (g : M_g) (a : Int) (b : GApiCode) (c : Int) : Option MRT0 :=
 (cond (decide (c < (b.Fns.length : Int))) ((getI b.Fns c).bind fun d => (cond (!(decide (d.At = a))) (some ((false, ()), ())) (cond (decide (d.Len < 0)) (some ((false, ()), ())) (cond (decide (d.Len > (w64 ((b.Ins.length : Int) - a)))) (some ((false, ()), ())) (cond (decide (d.Params < 0)) (some ((false, ()), ())) (cond (decide (d.Params > d.Slots)) (some ((false, ()), ())) (cond (decide (d.Slots > 200)) (some ((false, ()), ())) (cond (decide (d.Result < 0)) (some ((false, ()), ())) (cond (decide (d.Result > 1)) (some ((false, ()), ())) (g (.c1 (w64 (a + d.Len)) b (w64 (c + 1))))))))))))) (g (.c2 a b)))
def Mb2 (g : M_g) (a : Int) (b : GApiCode) : Option MRT0 :=
 (cond (!(decide (a = (b.Ins.length : Int)))) (some ((false, ()), ())) (g (.c3 b 0)))
def Mb3 (g : M_g) (a : GApiCode) (b : Int) : Option MRT0 :=
 (cond (decide (b < (a.Ins.length : Int))) ((getI a.Ins b).bind fun c => (cond (decide (c.Op < 1)) (some ((false, ()), ())) (cond (decide (c.Op > 26)) (some ((false, ()), ())) (cond (decide (c.Line < 0)) (some ((false, ()), ())) (cond (decide (c.Line > 2147483647)) (some ((false, ()), ())) (g (.c3 a (w64 (b + 1))))))))) (g (.c4 a)))
def Mb4 (g : M_g) (a : GApiCode) : Option MRT0 :=
 g (.c5 1048576 a 0)
def Mb5 (g : M_g) (a : Int) (b : GApiCode) (c : Int) : Option MRT0 :=
 (cond (decide (c < (b.Strs.length : Int))) ((getI b.Strs c).bind fun d => (cond (decide ((d.length : Int) > a)) (some ((false, ()), ())) (g (.c5 (w64 (a - (d.length : Int))) b (w64 (c + 1)))))) (g (.c6)))
def Mb6 (g : M_g)  : Option MRT0 :=
 (some ((true, ()), ()))
end
end Go.Proofs.YtcmpcbpdnaodmaaDoor
namespace Go.Proofs.YtcmpcbpdnaodmaaDoor
open Go.RowKit
set_option linter.unusedVariables false
set_option maxRecDepth 100000
set_option maxHeartbeats 4000000
theorem Me0 (g : Gt tab M_lt) a : M_of (M_B g) (.c0 a) = Mb0 (M_of g) a := by kernel_rfl
theorem Me1 (g : Gt tab M_lt) a b c : M_of (M_B g) (.c1 a b c) = Mb1 (M_of g) a b c := by kernel_rfl
theorem Me2 (g : Gt tab M_lt) a b : M_of (M_B g) (.c2 a b) = Mb2 (M_of g) a b := by kernel_rfl
theorem Me3 (g : Gt tab M_lt) a b : M_of (M_B g) (.c3 a b) = Mb3 (M_of g) a b := by kernel_rfl
theorem Me4 (g : Gt tab M_lt) a : M_of (M_B g) (.c4 a) = Mb4 (M_of g) a := by kernel_rfl
theorem Me5 (g : Gt tab M_lt) a b c : M_of (M_B g) (.c5 a b c) = Mb5 (M_of g) a b c := by kernel_rfl
theorem Me6 (g : Gt tab M_lt)  : M_of (M_B g) (.c6) = Mb6 (M_of g) := by kernel_rfl
end Go.Proofs.YtcmpcbpdnaodmaaDoor
namespace Go.Proofs.YtcmpcbpdnaodmaaDoor
open Go.RowKit
set_option linter.unusedVariables false
set_option maxRecDepth 100000
set_option maxHeartbeats 4000000
noncomputable def fM_code_May (a : GApiCode) : Option MRT0 := M_nm (.c0 a)
noncomputable def fM_code_May_l0 (a : Int) (b : GApiCode) (c : Int) : Option MRT0 := M_nm (.c1 a b c)
noncomputable def fM_code_May_j1 (a : Int) (b : GApiCode) : Option MRT0 := M_nm (.c2 a b)
noncomputable def fM_code_May_l2 (a : GApiCode) (b : Int) : Option MRT0 := M_nm (.c3 a b)
noncomputable def fM_code_May_j3 (a : GApiCode) : Option MRT0 := M_nm (.c4 a)
noncomputable def fM_code_May_l4 (a : Int) (b : GApiCode) (c : Int) : Option MRT0 := M_nm (.c5 a b c)
noncomputable def fM_code_May_j5  : Option MRT0 := M_nm (.c6)
theorem fM_code_May_eq (a : GApiCode) : fM_code_May a = (cond (decide ((a.Fns.length : Int) > 100)) (some ((false, ()), ())) (cond (decide ((a.Ins.length : Int) > 65536)) (some ((false, ()), ())) (cond (decide ((a.Strs.length : Int) > 65536)) (some ((false, ()), ())) ((fM_code_May_l0 0 a 0))))) := (M_qn _).trans (Me0 _ a)
theorem fM_code_May_l0_eq (a : Int) (b : GApiCode) (c : Int) : fM_code_May_l0 a b c = (cond (decide (c < (b.Fns.length : Int))) ((getI b.Fns c).bind fun d => (cond (!(decide (d.At = a))) (some ((false, ()), ())) (cond (decide (d.Len < 0)) (some ((false, ()), ())) (cond (decide (d.Len > (w64 ((b.Ins.length : Int) - a)))) (some ((false, ()), ())) (cond (decide (d.Params < 0)) (some ((false, ()), ())) (cond (decide (d.Params > d.Slots)) (some ((false, ()), ())) (cond (decide (d.Slots > 200)) (some ((false, ()), ())) (cond (decide (d.Result < 0)) (some ((false, ()), ())) (cond (decide (d.Result > 1)) (some ((false, ()), ())) ((fM_code_May_l0 (w64 (a + d.Len)) b (w64 (c + 1))))))))))))) ((fM_code_May_j1 a b))) := (M_qn _).trans (Me1 _ a b c)
theorem fM_code_May_j1_eq (a : Int) (b : GApiCode) : fM_code_May_j1 a b = (cond (!(decide (a = (b.Ins.length : Int)))) (some ((false, ()), ())) ((fM_code_May_l2 b 0))) := (M_qn _).trans (Me2 _ a b)
theorem fM_code_May_l2_eq (a : GApiCode) (b : Int) : fM_code_May_l2 a b = (cond (decide (b < (a.Ins.length : Int))) ((getI a.Ins b).bind fun c => (cond (decide (c.Op < 1)) (some ((false, ()), ())) (cond (decide (c.Op > 26)) (some ((false, ()), ())) (cond (decide (c.Line < 0)) (some ((false, ()), ())) (cond (decide (c.Line > 2147483647)) (some ((false, ()), ())) ((fM_code_May_l2 a (w64 (b + 1))))))))) ((fM_code_May_j3 a))) := (M_qn _).trans (Me3 _ a b)
theorem fM_code_May_j3_eq (a : GApiCode) : fM_code_May_j3 a = (fM_code_May_l4 1048576 a 0) := (M_qn _).trans (Me4 _ a)
theorem fM_code_May_l4_eq (a : Int) (b : GApiCode) (c : Int) : fM_code_May_l4 a b c = (cond (decide (c < (b.Strs.length : Int))) ((getI b.Strs c).bind fun d => (cond (decide ((d.length : Int) > a)) (some ((false, ()), ())) ((fM_code_May_l4 (w64 (a - (d.length : Int))) b (w64 (c + 1)))))) ((fM_code_May_j5))) := (M_qn _).trans (Me5 _ a b c)
theorem fM_code_May_j5_eq  : fM_code_May_j5 = (some ((true, ()), ())) := (M_qn _).trans (Me6 _)
end Go.Proofs.YtcmpcbpdnaodmaaDoor
