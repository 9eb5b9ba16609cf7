/- Functions of the program, lifted. -/
import Derived.Test.YtahioekdpndohaaLfTy
namespace Go.Proofs.Ytahioekdpndohaa
open Go.RowKit
set_option linter.unusedVariables false
set_option maxHeartbeats 4000000
def R_tree_Right (a0 : (List GApiNode)) (r : Bool) : Prop := FnP Try.prog 10 [.t (.sl 6 (a0.map c_GApiNode))] (aB r)
inductive tree_Right_C where
  | l0 (a0 : (List GApiNode)) (v0_22_0 : Int) (w0_1003 : (List Int))
  | l1 (a0 : (List GApiNode)) (v1_4_0 : Int) (v1_22_0 : Int) (x6_1 : GApiNode) (w1_1003 : (List Int))
  | j2 
  | j3 (a0 : (List GApiNode)) (v3_4_0 : Int) (v3_22_0 : Int) (x6_1 : GApiNode) (w3_1003 : (List Int))
  | j4 (a0 : (List GApiNode)) (v4_22_0 : Int) (w4_1003 : (List Int))
  | j5 (a0 : (List GApiNode)) (v3_4_0 : Int) (x6_1 : GApiNode) (v3_22_0 : Int) (w3_1003 : (List Int))
abbrev tree_Right_C_T : tree_Right_C → Type := fun _ => Bool
noncomputable def tree_Right_l0_b (g : (i : tree_Right_C) → Option (tree_Right_C_T i)) (a0 : (List GApiNode)) (v0_22_0 : Int) (w0_1003 : (List Int)) : Option Bool :=
  (if v0_22_0 < (a0.length : Int) then ((getI a0 v0_22_0).bind fun (x6_1 : GApiNode) => g (.l1 a0 v0_22_0 v0_22_0 x6_1 w0_1003)) else g (.j2))
noncomputable def tree_Right_l1_b (g : (i : tree_Right_C) → Option (tree_Right_C_T i)) (a0 : (List GApiNode)) (v1_4_0 : Int) (v1_22_0 : Int) (x6_1 : GApiNode) (w1_1003 : (List Int)) : Option Bool :=
  (if (w1_1003.length : Int) > 0 then ((getI w1_1003 (w64 ((w1_1003.length : Int) - 1))).bind fun (x7_8 : Int) => (if x7_8 = v1_4_0 then (if CutR 0 (w64 ((w1_1003.length : Int) - 1)) (w1_1003.length : Int) then g (.l1 a0 v1_4_0 v1_22_0 x6_1 (cutL w1_1003 0 (w64 ((w1_1003.length : Int) - 1)))) else none) else g (.j3 a0 v1_4_0 v1_22_0 x6_1 w1_1003))) else g (.j3 a0 v1_4_0 v1_22_0 x6_1 w1_1003))
noncomputable def tree_Right_j2_b (g : (i : tree_Right_C) → Option (tree_Right_C_T i))  : Option Bool :=
  (some true)
noncomputable def tree_Right_j3_b (g : (i : tree_Right_C) → Option (tree_Right_C_T i)) (a0 : (List GApiNode)) (v3_4_0 : Int) (v3_22_0 : Int) (x6_1 : GApiNode) (w3_1003 : (List Int)) : Option Bool :=
  (if x6_1.Size < 0 then (some false) else (if x6_1.Size > (w64 ((w64 ((a0.length : Int) - 1)) - v3_4_0)) then (some false) else (if (w3_1003.length : Int) > 0 then ((getI w3_1003 (w64 ((w3_1003.length : Int) - 1))).bind fun (x12_9 : Int) => (if (w64 ((w64 (v3_4_0 + 1)) + x6_1.Size)) > x12_9 then (some false) else g (.j5 a0 v3_4_0 x6_1 v3_22_0 w3_1003))) else g (.j5 a0 v3_4_0 x6_1 v3_22_0 w3_1003))))
noncomputable def tree_Right_j4_b (g : (i : tree_Right_C) → Option (tree_Right_C_T i)) (a0 : (List GApiNode)) (v4_22_0 : Int) (w4_1003 : (List Int)) : Option Bool :=
  g (.l0 a0 (w64 (v4_22_0 + 1)) w4_1003)
noncomputable def tree_Right_j5_b (g : (i : tree_Right_C) → Option (tree_Right_C_T i)) (a0 : (List GApiNode)) (v3_4_0 : Int) (x6_1 : GApiNode) (v3_22_0 : Int) (w3_1003 : (List Int)) : Option Bool :=
  (if AppOb 8 (w3_1003.length + ([(w64 ((w64 (v3_4_0 + 1)) + x6_1.Size))] : List Int).length) then g (.j4 a0 v3_22_0 (w3_1003 ++ ([(w64 ((w64 (v3_4_0 + 1)) + x6_1.Size))] : List Int))) else none)
noncomputable def tree_Right_B (g : (i : tree_Right_C) → Option (tree_Right_C_T i)) : (i : tree_Right_C) → Option (tree_Right_C_T i)
  | .l0 a0 v0_22_0 w0_1003 => tree_Right_l0_b g a0 v0_22_0 w0_1003
  | .l1 a0 v1_4_0 v1_22_0 x6_1 w1_1003 => tree_Right_l1_b g a0 v1_4_0 v1_22_0 x6_1 w1_1003
  | .j2  => tree_Right_j2_b g 
  | .j3 a0 v3_4_0 v3_22_0 x6_1 w3_1003 => tree_Right_j3_b g a0 v3_4_0 v3_22_0 x6_1 w3_1003
  | .j4 a0 v4_22_0 w4_1003 => tree_Right_j4_b g a0 v4_22_0 w4_1003
  | .j5 a0 v3_4_0 x6_1 v3_22_0 w3_1003 => tree_Right_j5_b g a0 v3_4_0 x6_1 v3_22_0 w3_1003
theorem tree_Right_B_fin (i : tree_Right_C) : Fin1 (fun g => tree_Right_B g i) := by
  cases i with
  | l0 a0 v0_22_0 w0_1003 => show Fin1 (fun g => tree_Right_l0_b g a0 v0_22_0 w0_1003); unfold tree_Right_l0_b; repeat (first | refine fin_bind ?_ (fun _ => ?_) | refine fin_ite ?_ ?_ | exact fin_ask _ | exact fin_const _)
  | l1 a0 v1_4_0 v1_22_0 x6_1 w1_1003 => show Fin1 (fun g => tree_Right_l1_b g a0 v1_4_0 v1_22_0 x6_1 w1_1003); unfold tree_Right_l1_b; repeat (first | refine fin_bind ?_ (fun _ => ?_) | refine fin_ite ?_ ?_ | exact fin_ask _ | exact fin_const _)
  | j2  => show Fin1 (fun g => tree_Right_j2_b g ); unfold tree_Right_j2_b; repeat (first | refine fin_bind ?_ (fun _ => ?_) | refine fin_ite ?_ ?_ | exact fin_ask _ | exact fin_const _)
  | j3 a0 v3_4_0 v3_22_0 x6_1 w3_1003 => show Fin1 (fun g => tree_Right_j3_b g a0 v3_4_0 v3_22_0 x6_1 w3_1003); unfold tree_Right_j3_b; repeat (first | refine fin_bind ?_ (fun _ => ?_) | refine fin_ite ?_ ?_ | exact fin_ask _ | exact fin_const _)
  | j4 a0 v4_22_0 w4_1003 => show Fin1 (fun g => tree_Right_j4_b g a0 v4_22_0 w4_1003); unfold tree_Right_j4_b; repeat (first | refine fin_bind ?_ (fun _ => ?_) | refine fin_ite ?_ ?_ | exact fin_ask _ | exact fin_const _)
  | j5 a0 v3_4_0 x6_1 v3_22_0 w3_1003 => show Fin1 (fun g => tree_Right_j5_b g a0 v3_4_0 x6_1 v3_22_0 w3_1003); unfold tree_Right_j5_b; repeat (first | refine fin_bind ?_ (fun _ => ?_) | refine fin_ite ?_ ?_ | exact fin_ask _ | exact fin_const _)
noncomputable def tree_Right_l0 (a0 : (List GApiNode)) (v0_22_0 : Int) (w0_1003 : (List Int)) : Option Bool := fixD tree_Right_B (.l0 a0 v0_22_0 w0_1003)
noncomputable def tree_Right_l1 (a0 : (List GApiNode)) (v1_4_0 : Int) (v1_22_0 : Int) (x6_1 : GApiNode) (w1_1003 : (List Int)) : Option Bool := fixD tree_Right_B (.l1 a0 v1_4_0 v1_22_0 x6_1 w1_1003)
noncomputable def tree_Right_j2  : Option Bool := fixD tree_Right_B (.j2 )
noncomputable def tree_Right_j3 (a0 : (List GApiNode)) (v3_4_0 : Int) (v3_22_0 : Int) (x6_1 : GApiNode) (w3_1003 : (List Int)) : Option Bool := fixD tree_Right_B (.j3 a0 v3_4_0 v3_22_0 x6_1 w3_1003)
noncomputable def tree_Right_j4 (a0 : (List GApiNode)) (v4_22_0 : Int) (w4_1003 : (List Int)) : Option Bool := fixD tree_Right_B (.j4 a0 v4_22_0 w4_1003)
noncomputable def tree_Right_j5 (a0 : (List GApiNode)) (v3_4_0 : Int) (x6_1 : GApiNode) (v3_22_0 : Int) (w3_1003 : (List Int)) : Option Bool := fixD tree_Right_B (.j5 a0 v3_4_0 x6_1 v3_22_0 w3_1003)
theorem tree_Right_l0_eq (a0 : (List GApiNode)) (v0_22_0 : Int) (w0_1003 : (List Int)) : tree_Right_l0 a0 v0_22_0 w0_1003 =
  (if v0_22_0 < (a0.length : Int) then ((getI a0 v0_22_0).bind fun (x6_1 : GApiNode) => tree_Right_l1 a0 v0_22_0 v0_22_0 x6_1 w0_1003) else tree_Right_j2) := fix_eq tree_Right_B_fin _
theorem tree_Right_l1_eq (a0 : (List GApiNode)) (v1_4_0 : Int) (v1_22_0 : Int) (x6_1 : GApiNode) (w1_1003 : (List Int)) : tree_Right_l1 a0 v1_4_0 v1_22_0 x6_1 w1_1003 =
  (if (w1_1003.length : Int) > 0 then ((getI w1_1003 (w64 ((w1_1003.length : Int) - 1))).bind fun (x7_8 : Int) => (if x7_8 = v1_4_0 then (if CutR 0 (w64 ((w1_1003.length : Int) - 1)) (w1_1003.length : Int) then tree_Right_l1 a0 v1_4_0 v1_22_0 x6_1 (cutL w1_1003 0 (w64 ((w1_1003.length : Int) - 1))) else none) else tree_Right_j3 a0 v1_4_0 v1_22_0 x6_1 w1_1003)) else tree_Right_j3 a0 v1_4_0 v1_22_0 x6_1 w1_1003) := fix_eq tree_Right_B_fin _
theorem tree_Right_j2_eq  : tree_Right_j2  =
  (some true) := fix_eq tree_Right_B_fin _
theorem tree_Right_j3_eq (a0 : (List GApiNode)) (v3_4_0 : Int) (v3_22_0 : Int) (x6_1 : GApiNode) (w3_1003 : (List Int)) : tree_Right_j3 a0 v3_4_0 v3_22_0 x6_1 w3_1003 =
  (if x6_1.Size < 0 then (some false) else (if x6_1.Size > (w64 ((w64 ((a0.length : Int) - 1)) - v3_4_0)) then (some false) else (if (w3_1003.length : Int) > 0 then ((getI w3_1003 (w64 ((w3_1003.length : Int) - 1))).bind fun (x12_9 : Int) => (if (w64 ((w64 (v3_4_0 + 1)) + x6_1.Size)) > x12_9 then (some false) else tree_Right_j5 a0 v3_4_0 x6_1 v3_22_0 w3_1003)) else tree_Right_j5 a0 v3_4_0 x6_1 v3_22_0 w3_1003))) := fix_eq tree_Right_B_fin _
theorem tree_Right_j4_eq (a0 : (List GApiNode)) (v4_22_0 : Int) (w4_1003 : (List Int)) : tree_Right_j4 a0 v4_22_0 w4_1003 =
  tree_Right_l0 a0 (w64 (v4_22_0 + 1)) w4_1003 := fix_eq tree_Right_B_fin _
theorem tree_Right_j5_eq (a0 : (List GApiNode)) (v3_4_0 : Int) (x6_1 : GApiNode) (v3_22_0 : Int) (w3_1003 : (List Int)) : tree_Right_j5 a0 v3_4_0 x6_1 v3_22_0 w3_1003 =
  (if AppOb 8 (w3_1003.length + ([(w64 ((w64 (v3_4_0 + 1)) + x6_1.Size))] : List Int).length) then tree_Right_j4 a0 v3_22_0 (w3_1003 ++ ([(w64 ((w64 (v3_4_0 + 1)) + x6_1.Size))] : List Int)) else none) := fix_eq tree_Right_B_fin _
set_option maxRecDepth 100000 in
theorem tree_Right_l1_ok (n : Nat)  (a0 : (List GApiNode)) (v1_4_0 : Int) (v1_22_0 : Int) (x6_1 : GApiNode) (w1_1003 : (List Int)) (r_ : Bool) (Q' : Exit → St → Prop) (kr : ∀ (ns : List (Nat × Nat × Nat)) (s : LS) (x : Bool), retX Try.prog ns [.tmp 2] s = some (aB x) → x = r_ → Q' .ret s.st) (k_x_2 : ∀ (q : Nat), q < n → ∀ (v3_4_0 : Int) (v3_22_0 : Int) (w3_1003 : (List Int)) (s' : LS), recN tree_Right_B q (.j3 a0 v3_4_0 v3_22_0 x6_1 w3_1003) = some r_ → Fits s'.st (LS.mk 81 [(0, .t (.sl 6 (a0.map c_GApiNode))), (3, .ref 1003), (4, aI .i64 v3_4_0), (5, .ptr 5 0), (20, .t (.sl 6 (a0.map c_GApiNode))), (21, aI .i64 (a0.length : Int)), (22, aI .i64 v3_22_0)] [(5, some (.box 32 [aI .u8 x6_1.Kind, aI .i64 x6_1.Line, aI .i64 x6_1.Col, aI .i64 x6_1.Size, aI .i64 x6_1.Num, aS x6_1.Text])), (1003, some (.row 3 1 (w3_1003.map c_i64)))]).st → Q' (.exit 2) s'.st) (h : recN tree_Right_B n (.l1 a0 v1_4_0 v1_22_0 x6_1 w1_1003) = some r_) : W Try.prog (subC (bodyC Try.prog 10) [1, 1, 1, 0, 1, 0, 0, 1, 1, 0, 0, 1, 0, 0]) (LS.mk 81 [(0, .t (.sl 6 (a0.map c_GApiNode))), (3, .ref 1003), (4, aI .i64 v1_4_0), (5, .ptr 5 0), (20, .t (.sl 6 (a0.map c_GApiNode))), (21, aI .i64 (a0.length : Int)), (22, aI .i64 v1_22_0)] [(5, some (.box 32 [aI .u8 x6_1.Kind, aI .i64 x6_1.Line, aI .i64 x6_1.Col, aI .i64 x6_1.Size, aI .i64 x6_1.Num, aS x6_1.Text])), (1003, some (.row 3 1 (w1_1003.map c_i64)))]).st Q' := by
  refine W_fix (σ := Int × Int × (List Int)) (fun m x_ => m ≤ n ∧ recN tree_Right_B m (.l1 a0 x_.1 x_.2.1 x6_1 x_.2.2) = some r_) (fun x_ => LS.mk 81 [(0, .t (.sl 6 (a0.map c_GApiNode))), (3, .ref 1003), (4, aI .i64 x_.1), (5, .ptr 5 0), (20, .t (.sl 6 (a0.map c_GApiNode))), (21, aI .i64 (a0.length : Int)), (22, aI .i64 x_.2.1)] [(5, some (.box 32 [aI .u8 x6_1.Kind, aI .i64 x6_1.Line, aI .i64 x6_1.Col, aI .i64 x6_1.Size, aI .i64 x6_1.Num, aS x6_1.Text])), (1003, some (.row 3 1 (x_.2.2.map c_i64)))]) (fun x hx => by cases hx.2) (fun _ _ => rfl) ?_ n (v1_4_0, v1_22_0, w1_1003) ⟨Nat.le_refl _, h⟩
  clear h
  rintro m ⟨v1_4_0, v1_22_0, w1_1003⟩ ⟨hlt, h⟩
  replace h : tree_Right_l1_b (recN tree_Right_B m) a0 v1_4_0 v1_22_0 x6_1 w1_1003 = some r_ := h
  unfold tree_Right_l1_b at h
  refine W_seq ?_
  refine W_seq ?_
  refine (Bool.eq_false_or_eq_true (decide ((w1_1003.length : Int) > 0))).elim (fun hb2001 => ?_) (fun hb2001 => ?_)
  · have hx2002 := hb2001
    have h := if_t h hx2002
    obtain ⟨x7_8, hx7_8, h⟩ := bind_ok h
    refine W_y (s' := LS.mk 81 [(0, .t (.sl 6 (a0.map c_GApiNode))), (3, .ref 1003), (4, aI .i64 v1_4_0), (5, .ptr 5 0), (20, .t (.sl 6 (a0.map c_GApiNode))), (21, aI .i64 (a0.length : Int)), (22, aI .i64 v1_22_0), (39, aB (decide (x7_8 = v1_4_0)))] [(5, some (.box 32 [aI .u8 x6_1.Kind, aI .i64 x6_1.Line, aI .i64 x6_1.Col, aI .i64 x6_1.Size, aI .i64 x6_1.Num, aS x6_1.Text])), (1003, some (.row 3 1 (w1_1003.map c_i64)))]) mixed [qn0, qn (.len w1_1003.length), qn0, qn0, qt0, qt0, qt (.len w1_1003.length), qt0, qt (.ix (Int.toNat (w64 ((w1_1003.length : Int) - 1))) (c_i64 x7_8)), qt (.ix (Int.toNat (w64 ((w1_1003.length : Int) - 1))) (c_i64 x7_8)), qt0, qt0, qn (.dec true)] ⟨[0, 3, 4, 5, 20, 21, 22, 39], [], [5], [], [(1003, 1003)], [], []⟩ (aC (len_obx c_i64 w1_1003) (aC hx2002 (aC hx2002 (aC hx2002 (aC (len_obx c_i64 w1_1003) (aC hx2002 (aC hx2002 (aC (ix_obx c_i64 hx7_8) (aC hx2002 (aC (el_obx c_i64 hx7_8) (aC hx2002 (aC hx2002 (aC hx2002 aN))))))))))))) (by kernel_rfl) ?_
    refine W_cond (decide (x7_8 = v1_4_0)) (by kernel_rfl) (fun hb2003 => ?_) (fun hb2003 => ?_)
    · have hx2004 := hb2003
      have h := if_t h hx2004
      refine W_skip ?_
      refine W_block ?_
      obtain ⟨hd2005, h⟩ := ite_ok h
      refine W_y (s' := LS.mk 81 [(0, .t (.sl 6 (a0.map c_GApiNode))), (3, .ref 1003), (4, aI .i64 v1_4_0), (5, .ptr 5 0), (20, .t (.sl 6 (a0.map c_GApiNode))), (21, aI .i64 (a0.length : Int)), (22, aI .i64 v1_22_0)] [(5, some (.box 32 [aI .u8 x6_1.Kind, aI .i64 x6_1.Line, aI .i64 x6_1.Col, aI .i64 x6_1.Size, aI .i64 x6_1.Num, aS x6_1.Text])), (1003, some (.row 3 1 ((cutL w1_1003 0 (w64 ((w1_1003.length : Int) - 1))).map c_i64)))]) mixed [qn0, qn0, qn (.len w1_1003.length), qn0, qn (.moves 0 (.row 3 1 ((cutL w1_1003 0 (w64 ((w1_1003.length : Int) - 1))).map c_i64))), qn0] ⟨[0, 3, 4, 5, 20, 21, 22], [], [5], [], [(44, 1003)], [], []⟩ (aC (len_obx c_i64 w1_1003) (aC (show OwnMove Try.prog (opAt (subC (bodyC Try.prog 10) [1, 1, 1, 0, 1, 0, 0, 1, 1, 0, 0, 1, 0, 0, 0, 1, 0]) 4) 0 (.row 3 1 (w1_1003.map c_i64)) [.dead, aI .i64 (w64 ((w1_1003.length : Int) - 1))] (.row 3 1 ((cutL w1_1003 0 (w64 ((w1_1003.length : Int) - 1))).map c_i64)) from cutown_obh (by rfl) (by kernel_rfl) ti3 (by rfl) _ hd2005) aN)) (by kernel_rfl) ?_
      exact ⟨m, (v1_4_0, v1_22_0, (cutL w1_1003 0 (w64 ((w1_1003.length : Int) - 1)))), Nat.le_refl _, ⟨Nat.le_of_lt hlt, h⟩, convX_fits (v := ⟨[0, 3, 4, 5, 20, 21, 22], [], [5], [], [(1003, 1003)], [], []⟩) (s' := LS.mk 81 [(0, .t (.sl 6 (a0.map c_GApiNode))), (3, .ref 1003), (4, aI .i64 v1_4_0), (5, .ptr 5 0), (20, .t (.sl 6 (a0.map c_GApiNode))), (21, aI .i64 (a0.length : Int)), (22, aI .i64 v1_22_0)] [(5, some (.box 32 [aI .u8 x6_1.Kind, aI .i64 x6_1.Line, aI .i64 x6_1.Col, aI .i64 x6_1.Size, aI .i64 x6_1.Num, aS x6_1.Text])), (1003, some (.row 3 1 ((cutL w1_1003 0 (w64 ((w1_1003.length : Int) - 1))).map c_i64)))]) (by kernel_rfl)⟩
    · have hx2004 := hb2003
      have h := if_f h hx2004
      refine W_exit ?_
      exact k_x_2 m hlt v1_4_0 v1_22_0 w1_1003 _ h (convX_fits (v := ⟨[0, 3, 4, 5, 20, 21, 22], [], [5], [], [(1003, 1003)], [], []⟩) (s' := LS.mk 81 [(0, .t (.sl 6 (a0.map c_GApiNode))), (3, .ref 1003), (4, aI .i64 v1_4_0), (5, .ptr 5 0), (20, .t (.sl 6 (a0.map c_GApiNode))), (21, aI .i64 (a0.length : Int)), (22, aI .i64 v1_22_0)] [(5, some (.box 32 [aI .u8 x6_1.Kind, aI .i64 x6_1.Line, aI .i64 x6_1.Col, aI .i64 x6_1.Size, aI .i64 x6_1.Num, aS x6_1.Text])), (1003, some (.row 3 1 (w1_1003.map c_i64)))]) (by kernel_rfl))
  · have hx2002 := hb2001
    have h := if_f h hx2002
    refine W_y (s' := LS.mk 81 [(0, .t (.sl 6 (a0.map c_GApiNode))), (3, .ref 1003), (4, aI .i64 v1_4_0), (5, .ptr 5 0), (20, .t (.sl 6 (a0.map c_GApiNode))), (21, aI .i64 (a0.length : Int)), (22, aI .i64 v1_22_0), (39, aB false)] [(5, some (.box 32 [aI .u8 x6_1.Kind, aI .i64 x6_1.Line, aI .i64 x6_1.Col, aI .i64 x6_1.Size, aI .i64 x6_1.Num, aS x6_1.Text])), (1003, some (.row 3 1 (w1_1003.map c_i64)))]) mixed [qn0, qn (.len w1_1003.length), qn0, qn0, qf0, qf0, qf0, qf0, qf0, qf0, qf0, qf0, qn (.dec false)] ⟨[0, 3, 4, 5, 20, 21, 22, 39], [], [5], [], [(1003, 1003)], [], []⟩ (aC (len_obx c_i64 w1_1003) (aC hx2002 (aC hx2002 (aC hx2002 (aC hx2002 (aC hx2002 (aC hx2002 (aC hx2002 (aC hx2002 (aC hx2002 aN)))))))))) (by kernel_rfl) ?_
    refine W_cond false (by kernel_rfl) (fun hb => nomatch ((rfl : false = false).symm.trans hb)) (fun _ => ?_)
    refine W_exit ?_
    exact k_x_2 m hlt v1_4_0 v1_22_0 w1_1003 _ h (convX_fits (v := ⟨[0, 3, 4, 5, 20, 21, 22], [], [5], [], [(1003, 1003)], [], []⟩) (s' := LS.mk 81 [(0, .t (.sl 6 (a0.map c_GApiNode))), (3, .ref 1003), (4, aI .i64 v1_4_0), (5, .ptr 5 0), (20, .t (.sl 6 (a0.map c_GApiNode))), (21, aI .i64 (a0.length : Int)), (22, aI .i64 v1_22_0)] [(5, some (.box 32 [aI .u8 x6_1.Kind, aI .i64 x6_1.Line, aI .i64 x6_1.Col, aI .i64 x6_1.Size, aI .i64 x6_1.Num, aS x6_1.Text])), (1003, some (.row 3 1 (w1_1003.map c_i64)))]) (by kernel_rfl))
set_option maxRecDepth 100000 in
theorem tree_Right_j2_ok (n : Nat)   (r_ : Bool) (Q' : Exit → St → Prop) (kr : ∀ (ns : List (Nat × Nat × Nat)) (s : LS) (x : Bool), retX Try.prog ns [.tmp 2] s = some (aB x) → x = r_ → Q' .ret s.st)  (h : recN tree_Right_B n (.j2 ) = some r_) : W Try.prog (subC (bodyC Try.prog 10) [1, 1, 1, 1]) (LS.mk 81 [] []).st Q' := by
  cases n with
  | zero => cases h
  | succ m =>
  have hlt : m < m + 1 := Nat.lt_succ_self m
  replace h : tree_Right_j2_b (recN tree_Right_B m)  = some r_ := h
  unfold tree_Right_j2_b at h
  refine W_seq ?_
  refine W_y (s' := LS.mk 81 [(2, aB true)] []) mixed [qn0] ⟨[2], [], [], [], [], [], []⟩ aN (by kernel_rfl) ?_
  refine W_ret ?_
  exact kr [] _ _ (by kernel_rfl) (Option.some.inj h)
set_option maxRecDepth 100000 in
theorem tree_Right_j4_ok (n : Nat)  (a0 : (List GApiNode)) (v4_22_0 : Int) (w4_1003 : (List Int)) (r_ : Bool) (Q' : Exit → St → Prop) (kr : ∀ (ns : List (Nat × Nat × Nat)) (s : LS) (x : Bool), retX Try.prog ns [.tmp 2] s = some (aB x) → x = r_ → Q' .ret s.st) (k_n : ∀ (q : Nat), q < n → ∀ (v0_22_0 : Int) (w0_1003 : (List Int)) (s' : LS), recN tree_Right_B q (.l0 a0 v0_22_0 w0_1003) = some r_ → Fits s'.st (LS.mk 81 [(0, .t (.sl 6 (a0.map c_GApiNode))), (3, .ref 1003), (20, .t (.sl 6 (a0.map c_GApiNode))), (21, aI .i64 (a0.length : Int)), (22, aI .i64 v0_22_0)] [(1003, some (.row 3 1 (w0_1003.map c_i64)))]).st → Q' .normal s'.st) (h : recN tree_Right_B n (.j4 a0 v4_22_0 w4_1003) = some r_) : W Try.prog (subC (bodyC Try.prog 10) [1, 1, 1, 0, 1, 0, 0, 1, 1, 1]) (LS.mk 81 [(0, .t (.sl 6 (a0.map c_GApiNode))), (3, .ref 1003), (20, .t (.sl 6 (a0.map c_GApiNode))), (21, aI .i64 (a0.length : Int)), (22, aI .i64 v4_22_0)] [(1003, some (.row 3 1 (w4_1003.map c_i64)))]).st Q' := by
  cases n with
  | zero => cases h
  | succ m =>
  have hlt : m < m + 1 := Nat.lt_succ_self m
  replace h : tree_Right_j4_b (recN tree_Right_B m) a0 v4_22_0 w4_1003 = some r_ := h
  unfold tree_Right_j4_b at h
  refine W_y (s' := LS.mk 81 [(0, .t (.sl 6 (a0.map c_GApiNode))), (3, .ref 1003), (20, .t (.sl 6 (a0.map c_GApiNode))), (21, aI .i64 (a0.length : Int)), (22, aI .i64 (w64 (v4_22_0 + 1)))] [(1003, some (.row 3 1 (w4_1003.map c_i64)))]) mixed [qn0, qn0] ⟨[0, 3, 20, 21, 22], [], [], [], [(1003, 1003)], [], []⟩ aN (by kernel_rfl) ?_
  exact k_n m hlt (w64 (v4_22_0 + 1)) w4_1003 _ h (convX_fits (v := ⟨[0, 3, 20, 21, 22], [], [], [], [(1003, 1003)], [], []⟩) (s' := LS.mk 81 [(0, .t (.sl 6 (a0.map c_GApiNode))), (3, .ref 1003), (20, .t (.sl 6 (a0.map c_GApiNode))), (21, aI .i64 (a0.length : Int)), (22, aI .i64 (w64 (v4_22_0 + 1)))] [(1003, some (.row 3 1 (w4_1003.map c_i64)))]) (by kernel_rfl))
set_option maxRecDepth 100000 in
theorem tree_Right_j5_ok (n : Nat)  (a0 : (List GApiNode)) (v3_4_0 : Int) (x6_1 : GApiNode) (v3_22_0 : Int) (w3_1003 : (List Int)) (r_ : Bool) (Q' : Exit → St → Prop) (kr : ∀ (ns : List (Nat × Nat × Nat)) (s : LS) (x : Bool), retX Try.prog ns [.tmp 2] s = some (aB x) → x = r_ → Q' .ret s.st) (k_n : ∀ (q : Nat), q < n → ∀ (v4_22_0 : Int) (w4_1003 : (List Int)) (s' : LS), recN tree_Right_B q (.j4 a0 v4_22_0 w4_1003) = some r_ → Fits s'.st (LS.mk 81 [(0, .t (.sl 6 (a0.map c_GApiNode))), (3, .ref 1003), (20, .t (.sl 6 (a0.map c_GApiNode))), (21, aI .i64 (a0.length : Int)), (22, aI .i64 v4_22_0)] [(1003, some (.row 3 1 (w4_1003.map c_i64)))]).st → Q' .normal s'.st) (h : recN tree_Right_B n (.j5 a0 v3_4_0 x6_1 v3_22_0 w3_1003) = some r_) : W Try.prog (subC (bodyC Try.prog 10) [1, 1, 1, 0, 1, 0, 0, 1, 1, 0, 0, 1, 1, 1, 1, 1]) (LS.mk 81 [(0, .t (.sl 6 (a0.map c_GApiNode))), (3, .ref 1003), (6, aI .i64 (w64 ((w64 (v3_4_0 + 1)) + x6_1.Size))), (20, .t (.sl 6 (a0.map c_GApiNode))), (21, aI .i64 (a0.length : Int)), (22, aI .i64 v3_22_0)] [(1003, some (.row 3 1 (w3_1003.map c_i64)))]).st Q' := by
  cases n with
  | zero => cases h
  | succ m =>
  have hlt : m < m + 1 := Nat.lt_succ_self m
  replace h : tree_Right_j5_b (recN tree_Right_B m) a0 v3_4_0 x6_1 v3_22_0 w3_1003 = some r_ := h
  unfold tree_Right_j5_b at h
  obtain ⟨hd6001, h⟩ := ite_ok h
  refine W_y (s' := LS.mk 81 [(0, .t (.sl 6 (a0.map c_GApiNode))), (3, .ref 1003), (20, .t (.sl 6 (a0.map c_GApiNode))), (21, aI .i64 (a0.length : Int)), (22, aI .i64 v3_22_0)] [(1003, some (.row 3 1 ((w3_1003 ++ ([(w64 ((w64 (v3_4_0 + 1)) + x6_1.Size))] : List Int)).map c_i64)))]) mixed [qn0, qn0, qn0, qn (.rows ((w3_1003 ++ ([(w64 ((w64 (v3_4_0 + 1)) + x6_1.Size))] : List Int)).map c_i64)), qn0] ⟨[0, 3, 20, 21, 22], [], [], [], [(79, 1003)], [], []⟩ (aC (ap_obx c_i64 hd6001) (aC (app_obx c_i64 w3_1003 ([(w64 ((w64 (v3_4_0 + 1)) + x6_1.Size))] : List Int)) aN)) (by kernel_rfl) ?_
  exact k_n m hlt v3_22_0 (w3_1003 ++ ([(w64 ((w64 (v3_4_0 + 1)) + x6_1.Size))] : List Int)) _ h (convX_fits (v := ⟨[0, 3, 20, 21, 22], [], [], [], [(1003, 1003)], [], []⟩) (s' := LS.mk 81 [(0, .t (.sl 6 (a0.map c_GApiNode))), (3, .ref 1003), (20, .t (.sl 6 (a0.map c_GApiNode))), (21, aI .i64 (a0.length : Int)), (22, aI .i64 v3_22_0)] [(1003, some (.row 3 1 ((w3_1003 ++ ([(w64 ((w64 (v3_4_0 + 1)) + x6_1.Size))] : List Int)).map c_i64)))]) (by kernel_rfl))
set_option maxRecDepth 100000 in
theorem tree_Right_j3_ok (n : Nat)  (a0 : (List GApiNode)) (v3_4_0 : Int) (v3_22_0 : Int) (x6_1 : GApiNode) (w3_1003 : (List Int)) (r_ : Bool) (Q' : Exit → St → Prop) (kr : ∀ (ns : List (Nat × Nat × Nat)) (s : LS) (x : Bool), retX Try.prog ns [.tmp 2] s = some (aB x) → x = r_ → Q' .ret s.st) (k_n : ∀ (q : Nat), q < n → ∀ (v4_22_0 : Int) (w4_1003 : (List Int)) (s' : LS), recN tree_Right_B q (.j4 a0 v4_22_0 w4_1003) = some r_ → Fits s'.st (LS.mk 81 [(0, .t (.sl 6 (a0.map c_GApiNode))), (3, .ref 1003), (20, .t (.sl 6 (a0.map c_GApiNode))), (21, aI .i64 (a0.length : Int)), (22, aI .i64 v4_22_0)] [(1003, some (.row 3 1 (w4_1003.map c_i64)))]).st → Q' .normal s'.st) (h : recN tree_Right_B n (.j3 a0 v3_4_0 v3_22_0 x6_1 w3_1003) = some r_) : W Try.prog (subC (bodyC Try.prog 10) [1, 1, 1, 0, 1, 0, 0, 1, 1, 0, 0, 1, 1]) (LS.mk 81 [(0, .t (.sl 6 (a0.map c_GApiNode))), (3, .ref 1003), (4, aI .i64 v3_4_0), (5, .ptr 5 0), (20, .t (.sl 6 (a0.map c_GApiNode))), (21, aI .i64 (a0.length : Int)), (22, aI .i64 v3_22_0)] [(5, some (.box 32 [aI .u8 x6_1.Kind, aI .i64 x6_1.Line, aI .i64 x6_1.Col, aI .i64 x6_1.Size, aI .i64 x6_1.Num, aS x6_1.Text])), (1003, some (.row 3 1 (w3_1003.map c_i64)))]).st Q' := by
  cases n with
  | zero => cases h
  | succ m =>
  have hlt : m < m + 1 := Nat.lt_succ_self m
  replace h : tree_Right_j3_b (recN tree_Right_B m) a0 v3_4_0 v3_22_0 x6_1 w3_1003 = some r_ := h
  unfold tree_Right_j3_b at h
  refine W_seq ?_
  refine W_seq ?_
  refine (Bool.eq_false_or_eq_true (decide (x6_1.Size < 0))).elim (fun hb4001 => ?_) (fun hb4001 => ?_)
  · have hx4002 := hb4001
    have h := if_t h hx4002
    refine W_y (s' := LS.mk 81 [(0, .t (.sl 6 (a0.map c_GApiNode))), (3, .ref 1003), (4, aI .i64 v3_4_0), (5, .ptr 5 0), (20, .t (.sl 6 (a0.map c_GApiNode))), (21, aI .i64 (a0.length : Int)), (22, aI .i64 v3_22_0), (57, aB true)] [(5, some (.box 32 [aI .u8 x6_1.Kind, aI .i64 x6_1.Line, aI .i64 x6_1.Col, aI .i64 x6_1.Size, aI .i64 x6_1.Num, aS x6_1.Text])), (1003, some (.row 3 1 (w3_1003.map c_i64)))]) mixed [qn0, qn0, qn0, qn0, qt0, qt0, qt0, qt0, qt0, qt0, qt0, qt0, qn (.dec true)] ⟨[0, 3, 4, 5, 20, 21, 22, 57], [], [5], [], [(1003, 1003)], [], []⟩ (aC hx4002 (aC hx4002 (aC hx4002 (aC hx4002 (aC hx4002 (aC hx4002 (aC hx4002 (aC hx4002 (aC hx4002 aN))))))))) (by kernel_rfl) ?_
    refine W_cond true (by kernel_rfl) (fun _ => ?_) (fun hb => nomatch ((rfl : true = true).symm.trans hb))
    refine W_seq ?_
    refine W_y (s' := LS.mk 81 [(2, aB false)] []) mixed [qn0] ⟨[2], [], [], [], [], [], []⟩ aN (by kernel_rfl) ?_
    refine W_ret ?_
    exact kr [] _ _ (by kernel_rfl) (Option.some.inj h)
  · have hx4002 := hb4001
    have h := if_f h hx4002
    refine W_y (s' := LS.mk 81 [(0, .t (.sl 6 (a0.map c_GApiNode))), (3, .ref 1003), (4, aI .i64 v3_4_0), (5, .ptr 5 0), (20, .t (.sl 6 (a0.map c_GApiNode))), (21, aI .i64 (a0.length : Int)), (22, aI .i64 v3_22_0), (57, aB (decide (x6_1.Size > (w64 ((w64 ((a0.length : Int) - 1)) - v3_4_0)))))] [(5, some (.box 32 [aI .u8 x6_1.Kind, aI .i64 x6_1.Line, aI .i64 x6_1.Col, aI .i64 x6_1.Size, aI .i64 x6_1.Num, aS x6_1.Text])), (1003, some (.row 3 1 (w3_1003.map c_i64)))]) mixed [qn0, qn0, qn0, qn0, qf0, qf0, qf0, qf (.len a0.length), qf0, qf0, qf0, qf0, qn (.dec false)] ⟨[0, 3, 4, 5, 20, 21, 22, 57], [], [5], [], [(1003, 1003)], [], []⟩ (aC hx4002 (aC hx4002 (aC hx4002 (aC hx4002 (aC (len_obx c_GApiNode a0) (aC hx4002 (aC hx4002 (aC hx4002 (aC hx4002 (aC hx4002 aN)))))))))) (by kernel_rfl) ?_
    refine W_cond (decide (x6_1.Size > (w64 ((w64 ((a0.length : Int) - 1)) - v3_4_0)))) (by kernel_rfl) (fun hb4003 => ?_) (fun hb4003 => ?_)
    · have hx4004 := hb4003
      have h := if_t h hx4004
      refine W_seq ?_
      refine W_y (s' := LS.mk 81 [(2, aB false)] []) mixed [qn0] ⟨[2], [], [], [], [], [], []⟩ aN (by kernel_rfl) ?_
      refine W_ret ?_
      exact kr [] _ _ (by kernel_rfl) (Option.some.inj h)
    · have hx4004 := hb4003
      have h := if_f h hx4004
      refine W_skip ?_
      refine W_seq ?_
      refine W_y (s' := LS.mk 81 [(0, .t (.sl 6 (a0.map c_GApiNode))), (3, .ref 1003), (6, aI .i64 (w64 ((w64 (v3_4_0 + 1)) + x6_1.Size))), (20, .t (.sl 6 (a0.map c_GApiNode))), (21, aI .i64 (a0.length : Int)), (22, aI .i64 v3_22_0)] [(1003, some (.row 3 1 (w3_1003.map c_i64)))]) mixed [qn0, qn0, qn0, qn0, qn0, qn0] ⟨[0, 3, 6, 20, 21, 22], [], [], [], [(1003, 1003)], [], []⟩ aN (by kernel_rfl) ?_
      refine W_seq ?_
      refine W_seq ?_
      refine (Bool.eq_false_or_eq_true (decide ((w3_1003.length : Int) > 0))).elim (fun hb4005 => ?_) (fun hb4005 => ?_)
      · have hx4006 := hb4005
        have h := if_t h hx4006
        obtain ⟨x12_9, hx12_9, h⟩ := bind_ok h
        refine W_y (s' := LS.mk 81 [(0, .t (.sl 6 (a0.map c_GApiNode))), (3, .ref 1003), (6, aI .i64 (w64 ((w64 (v3_4_0 + 1)) + x6_1.Size))), (20, .t (.sl 6 (a0.map c_GApiNode))), (21, aI .i64 (a0.length : Int)), (22, aI .i64 v3_22_0), (75, aB (decide ((w64 ((w64 (v3_4_0 + 1)) + x6_1.Size)) > x12_9)))] [(1003, some (.row 3 1 (w3_1003.map c_i64)))]) mixed [qn0, qn (.len w3_1003.length), qn0, qn0, qt0, qt0, qt0, qt (.len w3_1003.length), qt0, qt (.ix (Int.toNat (w64 ((w3_1003.length : Int) - 1))) (c_i64 x12_9)), qt (.ix (Int.toNat (w64 ((w3_1003.length : Int) - 1))) (c_i64 x12_9)), qt0, qn (.dec true)] ⟨[0, 3, 6, 20, 21, 22, 75], [], [], [], [(1003, 1003)], [], []⟩ (aC (len_obx c_i64 w3_1003) (aC hx4006 (aC hx4006 (aC hx4006 (aC hx4006 (aC (len_obx c_i64 w3_1003) (aC hx4006 (aC hx4006 (aC (ix_obx c_i64 hx12_9) (aC hx4006 (aC (el_obx c_i64 hx12_9) (aC hx4006 (aC hx4006 aN))))))))))))) (by kernel_rfl) ?_
        refine W_cond (decide ((w64 ((w64 (v3_4_0 + 1)) + x6_1.Size)) > x12_9)) (by kernel_rfl) (fun hb4007 => ?_) (fun hb4007 => ?_)
        · have hx4008 := hb4007
          have h := if_t h hx4008
          refine W_seq ?_
          refine W_y (s' := LS.mk 81 [(2, aB false)] []) mixed [qn0] ⟨[2], [], [], [], [], [], []⟩ aN (by kernel_rfl) ?_
          refine W_ret ?_
          exact kr [] _ _ (by kernel_rfl) (Option.some.inj h)
        · have hx4008 := hb4007
          have h := if_f h hx4008
          refine W_skip ?_
          exact W_conv (s' := LS.mk 81 [(0, .t (.sl 6 (a0.map c_GApiNode))), (3, .ref 1003), (6, aI .i64 (w64 ((w64 (v3_4_0 + 1)) + x6_1.Size))), (20, .t (.sl 6 (a0.map c_GApiNode))), (21, aI .i64 (a0.length : Int)), (22, aI .i64 v3_22_0)] [(1003, some (.row 3 1 (w3_1003.map c_i64)))]) ⟨[0, 3, 6, 20, 21, 22], [], [], [], [(1003, 1003)], [], []⟩ (by kernel_rfl) (tree_Right_j5_ok m a0 v3_4_0 x6_1 v3_22_0 w3_1003 r_ _ kr (fun q1 hq1 v4_22_0 w4_1003 s' h hf => k_n q1 (Nat.lt_trans hq1 hlt) v4_22_0 w4_1003 s' h hf) h)
      · have hx4006 := hb4005
        have h := if_f h hx4006
        refine W_y (s' := LS.mk 81 [(0, .t (.sl 6 (a0.map c_GApiNode))), (3, .ref 1003), (6, aI .i64 (w64 ((w64 (v3_4_0 + 1)) + x6_1.Size))), (20, .t (.sl 6 (a0.map c_GApiNode))), (21, aI .i64 (a0.length : Int)), (22, aI .i64 v3_22_0), (75, aB false)] [(1003, some (.row 3 1 (w3_1003.map c_i64)))]) mixed [qn0, qn (.len w3_1003.length), qn0, qn0, qf0, qf0, qf0, qf0, qf0, qf0, qf0, qf0, qn (.dec false)] ⟨[0, 3, 6, 20, 21, 22, 75], [], [], [], [(1003, 1003)], [], []⟩ (aC (len_obx c_i64 w3_1003) (aC hx4006 (aC hx4006 (aC hx4006 (aC hx4006 (aC hx4006 (aC hx4006 (aC hx4006 (aC hx4006 (aC hx4006 aN)))))))))) (by kernel_rfl) ?_
        refine W_cond false (by kernel_rfl) (fun hb => nomatch ((rfl : false = false).symm.trans hb)) (fun _ => ?_)
        refine W_skip ?_
        exact W_conv (s' := LS.mk 81 [(0, .t (.sl 6 (a0.map c_GApiNode))), (3, .ref 1003), (6, aI .i64 (w64 ((w64 (v3_4_0 + 1)) + x6_1.Size))), (20, .t (.sl 6 (a0.map c_GApiNode))), (21, aI .i64 (a0.length : Int)), (22, aI .i64 v3_22_0)] [(1003, some (.row 3 1 (w3_1003.map c_i64)))]) ⟨[0, 3, 6, 20, 21, 22], [], [], [], [(1003, 1003)], [], []⟩ (by kernel_rfl) (tree_Right_j5_ok m a0 v3_4_0 x6_1 v3_22_0 w3_1003 r_ _ kr (fun q1 hq1 v4_22_0 w4_1003 s' h hf => k_n q1 (Nat.lt_trans hq1 hlt) v4_22_0 w4_1003 s' h hf) h)
set_option maxRecDepth 100000 in
theorem tree_Right_l0_ok (n : Nat)  (a0 : (List GApiNode)) (v0_22_0 : Int) (w0_1003 : (List Int)) (r_ : Bool) (Q' : Exit → St → Prop) (kr : ∀ (ns : List (Nat × Nat × Nat)) (s : LS) (x : Bool), retX Try.prog ns [.tmp 2] s = some (aB x) → x = r_ → Q' .ret s.st) (k_x_0 : ∀ (q : Nat), q < n → ∀  (s' : LS), recN tree_Right_B q (.j2 ) = some r_ → Fits s'.st (LS.mk 81 [] []).st → Q' (.exit 0) s'.st) (h : recN tree_Right_B n (.l0 a0 v0_22_0 w0_1003) = some r_) : W Try.prog (subC (bodyC Try.prog 10) [1, 1, 1, 0, 1, 0]) (LS.mk 81 [(0, .t (.sl 6 (a0.map c_GApiNode))), (3, .ref 1003), (20, .t (.sl 6 (a0.map c_GApiNode))), (21, aI .i64 (a0.length : Int)), (22, aI .i64 v0_22_0)] [(1003, some (.row 3 1 (w0_1003.map c_i64)))]).st Q' := by
  refine W_fix (σ := Int × (List Int)) (fun m x_ => m ≤ n ∧ recN tree_Right_B m (.l0 a0 x_.1 x_.2) = some r_) (fun x_ => LS.mk 81 [(0, .t (.sl 6 (a0.map c_GApiNode))), (3, .ref 1003), (20, .t (.sl 6 (a0.map c_GApiNode))), (21, aI .i64 (a0.length : Int)), (22, aI .i64 x_.1)] [(1003, some (.row 3 1 (x_.2.map c_i64)))]) (fun x hx => by cases hx.2) (fun _ _ => rfl) ?_ n (v0_22_0, w0_1003) ⟨Nat.le_refl _, h⟩
  clear h
  rintro m ⟨v0_22_0, w0_1003⟩ ⟨hlt, h⟩
  replace h : tree_Right_l0_b (recN tree_Right_B m) a0 v0_22_0 w0_1003 = some r_ := h
  unfold tree_Right_l0_b at h
  refine W_seq ?_
  refine W_y (s' := LS.mk 81 [(0, .t (.sl 6 (a0.map c_GApiNode))), (3, .ref 1003), (20, .t (.sl 6 (a0.map c_GApiNode))), (21, aI .i64 (a0.length : Int)), (22, aI .i64 v0_22_0), (23, aB (decide (v0_22_0 < (a0.length : Int))))] [(1003, some (.row 3 1 (w0_1003.map c_i64)))]) mixed [qn0] ⟨[0, 3, 20, 21, 22, 23], [], [], [], [(1003, 1003)], [], []⟩ aN (by kernel_rfl) ?_
  refine W_seq ?_
  refine W_cond (decide (v0_22_0 < (a0.length : Int))) (by kernel_rfl) (fun hb1001 => ?_) (fun hb1001 => ?_)
  · have hx1002 := hb1001
    have h := if_t h hx1002
    refine W_skip ?_
    refine W_seq ?_
    refine W_block ?_
    refine W_seq ?_
    obtain ⟨x6_1, hx6_1, h⟩ := bind_ok h
    refine W_y (s' := LS.mk 81 [(0, .t (.sl 6 (a0.map c_GApiNode))), (3, .ref 1003), (4, aI .i64 v0_22_0), (5, .ptr 5 0), (20, .t (.sl 6 (a0.map c_GApiNode))), (21, aI .i64 (a0.length : Int)), (22, aI .i64 v0_22_0)] [(5, some (.box 32 [aI .u8 x6_1.Kind, aI .i64 x6_1.Line, aI .i64 x6_1.Col, aI .i64 x6_1.Size, aI .i64 x6_1.Num, aS x6_1.Text])), (1003, some (.row 3 1 (w0_1003.map c_i64)))]) mixed [qn0, qn (.ix (Int.toNat v0_22_0) (c_GApiNode x6_1)), qn0, qn0, qn0, qn0] ⟨[0, 3, 4, 5, 20, 21, 22], [], [5], [], [(1003, 1003)], [], []⟩ (aC (ix_obx c_GApiNode hx6_1) aN) (by kernel_rfl) ?_
    refine W_seq ?_
    refine W_block ?_
    exact W_conv (s' := LS.mk 81 [(0, .t (.sl 6 (a0.map c_GApiNode))), (3, .ref 1003), (4, aI .i64 v0_22_0), (5, .ptr 5 0), (20, .t (.sl 6 (a0.map c_GApiNode))), (21, aI .i64 (a0.length : Int)), (22, aI .i64 v0_22_0)] [(5, some (.box 32 [aI .u8 x6_1.Kind, aI .i64 x6_1.Line, aI .i64 x6_1.Col, aI .i64 x6_1.Size, aI .i64 x6_1.Num, aS x6_1.Text])), (1003, some (.row 3 1 (w0_1003.map c_i64)))]) ⟨[0, 3, 4, 5, 20, 21, 22], [], [5], [], [(1003, 1003)], [], []⟩ (by kernel_rfl) (tree_Right_l1_ok m a0 v0_22_0 v0_22_0 x6_1 w0_1003 r_ _ kr (fun q1 hq1 v3_4_0 v3_22_0 w3_1003 s' h hf => W_pre hf (tree_Right_j3_ok q1 a0 v3_4_0 v3_22_0 x6_1 w3_1003 r_ _ kr (fun q2 hq2 v4_22_0 w4_1003 s' h hf => W_pre hf (tree_Right_j4_ok q2 a0 v4_22_0 w4_1003 r_ _ kr (fun q3 hq3 v0_22_0 w0_1003 s' h hf => ⟨q3, (v0_22_0, w0_1003), Nat.le_of_lt (Nat.lt_trans hq3 (Nat.lt_trans hq2 hq1)), ⟨Nat.le_of_lt (Nat.lt_trans hq3 (Nat.lt_trans hq2 (Nat.lt_trans hq1 hlt))), h⟩, hf⟩) h)) h)) h)
  · have hx1002 := hb1001
    have h := if_f h hx1002
    refine W_exit ?_
    exact k_x_0 m hlt  _ h (convX_fits (v := ⟨[], [], [], [], [], [], []⟩) (s' := LS.mk 81 [] []) (by kernel_rfl))
noncomputable def tree_Right (a0 : (List GApiNode)) : Option Bool :=
  (if (a0.length : Int) = 0 then (some false) else ((getI a0 0).bind fun (x1_5 : GApiNode) => (if x1_5.Size = (w64 ((a0.length : Int) - 1)) then tree_Right_l0 a0 0 ([] : List Int) else (some false))))
set_option maxRecDepth 100000 in
theorem tree_Right_ok {a0 : (List GApiNode)} {r_ : Bool} (h : tree_Right a0 = some r_) : R_tree_Right a0 r_ := by
  unfold tree_Right at h
  refine fn_pureX (fn := Try.f10) (by kernel_rfl) (c := subC (bodyC Try.prog 10) []) (by kernel_rfl) (by kernel_rfl) (Nat.le_of_ble_eq_true (by kernel_rfl)) ?_
  generalize hQ' : retQ Try.prog Try.f10 (aB r_) = Q'
  have kr : ∀ (ns : List (Nat × Nat × Nat)) (s : LS) (x : Bool), retX Try.prog ns [.tmp 2] s = some (aB x) → x = r_ → Q' .ret s.st := by subst hQ'; intro ns s x hx hq; subst hq; exact ret_ok (fn := Try.f10) ns hx
  change W Try.prog _ (LS.mk 81 [(0, .t (.sl 6 (a0.map c_GApiNode)))] []).st Q'
  refine W_seq ?_
  refine W_y (s' := LS.mk 81 [(0, .t (.sl 6 (a0.map c_GApiNode)))] []) mixed [qn0] ⟨[0], [], [], [], [], [], []⟩ aN (by kernel_rfl) ?_
  refine W_seq ?_
  refine W_seq ?_
  refine (Bool.eq_false_or_eq_true (decide ((a0.length : Int) = 0))).elim (fun hb1 => ?_) (fun hb1 => ?_)
  · have hx2 := hb1
    have h := if_t h hx2
    refine W_y (s' := LS.mk 81 [(0, .t (.sl 6 (a0.map c_GApiNode))), (19, aB true)] []) mixed [qn0, qn (.len a0.length), qn0, qn0, qt0, qt0, qt0, qt0, qt0, qt0, qt0, qt0, qn (.dec true)] ⟨[0, 19], [], [], [], [], [], []⟩ (aC (len_obx c_GApiNode a0) (aC hx2 (aC hx2 (aC hx2 (aC hx2 (aC hx2 (aC hx2 (aC hx2 (aC hx2 (aC hx2 aN)))))))))) (by kernel_rfl) ?_
    refine W_cond true (by kernel_rfl) (fun _ => ?_) (fun hb => nomatch ((rfl : true = true).symm.trans hb))
    refine W_seq ?_
    refine W_y (s' := LS.mk 81 [(2, aB false)] []) mixed [qn0] ⟨[2], [], [], [], [], [], []⟩ aN (by kernel_rfl) ?_
    refine W_ret ?_
    exact kr [] _ _ (by kernel_rfl) (Option.some.inj h)
  · have hx2 := hb1
    have h := if_f h hx2
    obtain ⟨x1_5, hx1_5, h⟩ := bind_ok h
    refine W_y (s' := LS.mk 81 [(0, .t (.sl 6 (a0.map c_GApiNode))), (19, aB (!(decide (x1_5.Size = (w64 ((a0.length : Int) - 1))))))] []) mixed [qn0, qn (.len a0.length), qn0, qn0, qf0, qf (.ix (Int.toNat 0) (c_GApiNode x1_5)), qf0, qf0, qf0, qf (.len a0.length), qf0, qf0, qn (.dec false)] ⟨[0, 19], [], [], [], [], [], []⟩ (aC (len_obx c_GApiNode a0) (aC hx2 (aC hx2 (aC (ix_obx c_GApiNode hx1_5) (aC hx2 (aC hx2 (aC hx2 (aC hx2 (aC (len_obx c_GApiNode a0) (aC hx2 (aC hx2 (aC hx2 aN)))))))))))) (by kernel_rfl) ?_
    refine W_cond (!(decide (x1_5.Size = (w64 ((a0.length : Int) - 1))))) (by kernel_rfl) (fun hb3 => ?_) (fun hb3 => ?_)
    · have hx4 : (decide (x1_5.Size = (w64 ((a0.length : Int) - 1)))) = false := (bnot_t hb3)
      have h := if_f h hx4
      refine W_seq ?_
      refine W_y (s' := LS.mk 81 [(2, aB false)] []) mixed [qn0] ⟨[2], [], [], [], [], [], []⟩ aN (by kernel_rfl) ?_
      refine W_ret ?_
      exact kr [] _ _ (by kernel_rfl) (Option.some.inj h)
    · have hx4 : (decide (x1_5.Size = (w64 ((a0.length : Int) - 1)))) = true := (bnot_f hb3)
      have h := if_t h hx4
      refine W_skip ?_
      refine W_seq ?_
      refine W_y (s' := LS.mk 81 [(0, .t (.sl 6 (a0.map c_GApiNode))), (3, aNil)] []) mixed [qn0] ⟨[0, 3], [], [], [], [], [], []⟩ aN (by kernel_rfl) ?_
      refine W_seq ?_
      refine W_seq ?_
      refine W_y (s' := LS.mk 81 [(0, .t (.sl 6 (a0.map c_GApiNode))), (3, aNil), (20, .t (.sl 6 (a0.map c_GApiNode))), (21, aI .i64 (a0.length : Int)), (22, aI .i64 0)] []) mixed [qn0, qn (.len a0.length), qn0] ⟨[0, 3, 20, 21, 22], [], [], [], [], [], []⟩ (aC (len_obx c_GApiNode a0) aN) (by kernel_rfl) ?_
      refine W_block ?_
      obtain ⟨n, h⟩ := fix_rec h
      exact W_conv (s' := LS.mk 81 [(0, .t (.sl 6 (a0.map c_GApiNode))), (3, .ref 1003), (20, .t (.sl 6 (a0.map c_GApiNode))), (21, aI .i64 (a0.length : Int)), (22, aI .i64 0)] [(1003, some (.row 3 1 (([] : List Int).map c_i64)))]) ⟨[0, 3, 20, 21, 22], [(3, 0, .row 1003)], [], [], [], [], [(1003, 3, 1)]⟩ (by kernel_rfl) (tree_Right_l0_ok n a0 0 ([] : List Int) r_ _ kr (fun q1 hq1  s' h hf => W_pre hf (tree_Right_j2_ok q1 r_ _ kr h)) h)
def R_lex_Word (a0 : (List UInt8)) (r : Bool) : Prop := FnP Try.prog 50 [aS a0] (aB r)
noncomputable def lex_Word (a0 : (List UInt8)) : Option Bool :=
  (if a0 = ([114, 101, 99] : List UInt8) then (some true) else (if a0 = ([102, 110] : List UInt8) then (some true) else (if a0 = ([118, 97, 114] : List UInt8) then (some true) else (if a0 = ([105, 102] : List UInt8) then (some true) else (if a0 = ([101, 108, 115, 101] : List UInt8) then (some true) else (if a0 = ([119, 104, 105, 108, 101] : List UInt8) then (some true) else (if a0 = ([114, 101, 116, 117, 114, 110] : List UInt8) then (some true) else (if a0 = ([112, 114, 105, 110, 116] : List UInt8) then (some true) else (if a0 = ([116, 114, 117, 101] : List UInt8) then (some true) else (if a0 = ([102, 97, 108, 115, 101] : List UInt8) then (some true) else (if a0 = ([110, 105, 108] : List UInt8) then (some true) else (if a0 = ([109, 97, 107, 101] : List UInt8) then (some true) else (if a0 = ([105, 110, 116] : List UInt8) then (some true) else (if a0 = ([98, 111, 111, 108] : List UInt8) then (some true) else (if a0 = ([115, 116, 114] : List UInt8) then (some true) else (if a0 = ([99, 111, 109, 112] : List UInt8) then (some true) else (some false)))))))))))))))))
set_option maxRecDepth 100000 in
theorem lex_Word_ok {a0 : (List UInt8)} {r_ : Bool} (h : lex_Word a0 = some r_) : R_lex_Word a0 r_ := by
  unfold lex_Word at h
  refine fn_pureX (fn := Try.f50) (by kernel_rfl) (c := subC (bodyC Try.prog 50) []) (by kernel_rfl) (by kernel_rfl) (Nat.le_of_ble_eq_true (by kernel_rfl)) ?_
  generalize hQ' : retQ Try.prog Try.f50 (aB r_) = Q'
  have kr : ∀ (ns : List (Nat × Nat × Nat)) (s : LS) (x : Bool), retX Try.prog ns [.tmp 2] s = some (aB x) → x = r_ → Q' .ret s.st := by subst hQ'; intro ns s x hx hq; subst hq; exact ret_ok (fn := Try.f50) ns hx
  change W Try.prog _ (LS.mk 21 [(0, aS a0)] []).st Q'
  refine W_seq ?_
  refine W_y (s' := LS.mk 21 [(0, aS a0)] []) mixed [qn0] ⟨[0], [], [], [], [], [], []⟩ aN (by kernel_rfl) ?_
  refine W_seq ?_
  refine W_seq ?_
  refine W_y (s' := LS.mk 21 [(3, aS a0)] []) mixed [qn0] ⟨[3], [], [], [], [], [], []⟩ aN (by kernel_rfl) ?_
  refine W_block ?_
  refine W_seq ?_
  refine W_seq ?_
  refine W_y (s' := LS.mk 21 [(3, aS a0), (4, aB (decide (a0 = ([114, 101, 99] : List UInt8))))] []) mixed [qn (.val (.bool (decide (a0 = ([114, 101, 99] : List UInt8))))), qn0] ⟨[3, 4], [], [], [], [], [], []⟩ (aC (str_eq_ob (P := Try.prog) 9 a0 ([114, 101, 99] : List UInt8)) aN) (by kernel_rfl) ?_
  refine W_cond (decide (a0 = ([114, 101, 99] : List UInt8))) (by kernel_rfl) (fun hb1 => ?_) (fun hb1 => ?_)
  · have hx2 := hb1
    have h := if_t h hx2
    refine W_skip ?_
    refine W_cond (decide (a0 = ([114, 101, 99] : List UInt8))) (by kernel_rfl) (fun _ => ?_) (fun hb => nomatch ((hx2 : (decide (a0 = ([114, 101, 99] : List UInt8))) = true).symm.trans hb))
    refine W_seq ?_
    refine W_y (s' := LS.mk 21 [(2, aB true)] []) mixed [qn0] ⟨[2], [], [], [], [], [], []⟩ aN (by kernel_rfl) ?_
    refine W_ret ?_
    exact kr [] _ _ (by kernel_rfl) (Option.some.inj h)
  · have hx2 := hb1
    have h := if_f h hx2
    refine W_seq ?_
    refine W_y (s' := LS.mk 21 [(3, aS a0), (4, aB (decide (a0 = ([102, 110] : List UInt8))))] []) mixed [qn (.val (.bool (decide (a0 = ([102, 110] : List UInt8))))), qn0] ⟨[3, 4], [], [], [], [], [], []⟩ (aC (str_eq_ob (P := Try.prog) 9 a0 ([102, 110] : List UInt8)) aN) (by kernel_rfl) ?_
    refine W_cond (decide (a0 = ([102, 110] : List UInt8))) (by kernel_rfl) (fun hb3 => ?_) (fun hb3 => ?_)
    · have hx4 := hb3
      have h := if_t h hx4
      refine W_skip ?_
      refine W_cond (decide (a0 = ([102, 110] : List UInt8))) (by kernel_rfl) (fun _ => ?_) (fun hb => nomatch ((hx4 : (decide (a0 = ([102, 110] : List UInt8))) = true).symm.trans hb))
      refine W_seq ?_
      refine W_y (s' := LS.mk 21 [(2, aB true)] []) mixed [qn0] ⟨[2], [], [], [], [], [], []⟩ aN (by kernel_rfl) ?_
      refine W_ret ?_
      exact kr [] _ _ (by kernel_rfl) (Option.some.inj h)
    · have hx4 := hb3
      have h := if_f h hx4
      refine W_seq ?_
      refine W_y (s' := LS.mk 21 [(3, aS a0), (4, aB (decide (a0 = ([118, 97, 114] : List UInt8))))] []) mixed [qn (.val (.bool (decide (a0 = ([118, 97, 114] : List UInt8))))), qn0] ⟨[3, 4], [], [], [], [], [], []⟩ (aC (str_eq_ob (P := Try.prog) 9 a0 ([118, 97, 114] : List UInt8)) aN) (by kernel_rfl) ?_
      refine W_cond (decide (a0 = ([118, 97, 114] : List UInt8))) (by kernel_rfl) (fun hb5 => ?_) (fun hb5 => ?_)
      · have hx6 := hb5
        have h := if_t h hx6
        refine W_skip ?_
        refine W_cond (decide (a0 = ([118, 97, 114] : List UInt8))) (by kernel_rfl) (fun _ => ?_) (fun hb => nomatch ((hx6 : (decide (a0 = ([118, 97, 114] : List UInt8))) = true).symm.trans hb))
        refine W_seq ?_
        refine W_y (s' := LS.mk 21 [(2, aB true)] []) mixed [qn0] ⟨[2], [], [], [], [], [], []⟩ aN (by kernel_rfl) ?_
        refine W_ret ?_
        exact kr [] _ _ (by kernel_rfl) (Option.some.inj h)
      · have hx6 := hb5
        have h := if_f h hx6
        refine W_seq ?_
        refine W_y (s' := LS.mk 21 [(3, aS a0), (4, aB (decide (a0 = ([105, 102] : List UInt8))))] []) mixed [qn (.val (.bool (decide (a0 = ([105, 102] : List UInt8))))), qn0] ⟨[3, 4], [], [], [], [], [], []⟩ (aC (str_eq_ob (P := Try.prog) 9 a0 ([105, 102] : List UInt8)) aN) (by kernel_rfl) ?_
        refine W_cond (decide (a0 = ([105, 102] : List UInt8))) (by kernel_rfl) (fun hb7 => ?_) (fun hb7 => ?_)
        · have hx8 := hb7
          have h := if_t h hx8
          refine W_skip ?_
          refine W_cond (decide (a0 = ([105, 102] : List UInt8))) (by kernel_rfl) (fun _ => ?_) (fun hb => nomatch ((hx8 : (decide (a0 = ([105, 102] : List UInt8))) = true).symm.trans hb))
          refine W_seq ?_
          refine W_y (s' := LS.mk 21 [(2, aB true)] []) mixed [qn0] ⟨[2], [], [], [], [], [], []⟩ aN (by kernel_rfl) ?_
          refine W_ret ?_
          exact kr [] _ _ (by kernel_rfl) (Option.some.inj h)
        · have hx8 := hb7
          have h := if_f h hx8
          refine W_seq ?_
          refine W_y (s' := LS.mk 21 [(3, aS a0), (4, aB (decide (a0 = ([101, 108, 115, 101] : List UInt8))))] []) mixed [qn (.val (.bool (decide (a0 = ([101, 108, 115, 101] : List UInt8))))), qn0] ⟨[3, 4], [], [], [], [], [], []⟩ (aC (str_eq_ob (P := Try.prog) 9 a0 ([101, 108, 115, 101] : List UInt8)) aN) (by kernel_rfl) ?_
          refine W_cond (decide (a0 = ([101, 108, 115, 101] : List UInt8))) (by kernel_rfl) (fun hb9 => ?_) (fun hb9 => ?_)
          · have hx10 := hb9
            have h := if_t h hx10
            refine W_skip ?_
            refine W_cond (decide (a0 = ([101, 108, 115, 101] : List UInt8))) (by kernel_rfl) (fun _ => ?_) (fun hb => nomatch ((hx10 : (decide (a0 = ([101, 108, 115, 101] : List UInt8))) = true).symm.trans hb))
            refine W_seq ?_
            refine W_y (s' := LS.mk 21 [(2, aB true)] []) mixed [qn0] ⟨[2], [], [], [], [], [], []⟩ aN (by kernel_rfl) ?_
            refine W_ret ?_
            exact kr [] _ _ (by kernel_rfl) (Option.some.inj h)
          · have hx10 := hb9
            have h := if_f h hx10
            refine W_seq ?_
            refine W_y (s' := LS.mk 21 [(3, aS a0), (4, aB (decide (a0 = ([119, 104, 105, 108, 101] : List UInt8))))] []) mixed [qn (.val (.bool (decide (a0 = ([119, 104, 105, 108, 101] : List UInt8))))), qn0] ⟨[3, 4], [], [], [], [], [], []⟩ (aC (str_eq_ob (P := Try.prog) 9 a0 ([119, 104, 105, 108, 101] : List UInt8)) aN) (by kernel_rfl) ?_
            refine W_cond (decide (a0 = ([119, 104, 105, 108, 101] : List UInt8))) (by kernel_rfl) (fun hb11 => ?_) (fun hb11 => ?_)
            · have hx12 := hb11
              have h := if_t h hx12
              refine W_skip ?_
              refine W_cond (decide (a0 = ([119, 104, 105, 108, 101] : List UInt8))) (by kernel_rfl) (fun _ => ?_) (fun hb => nomatch ((hx12 : (decide (a0 = ([119, 104, 105, 108, 101] : List UInt8))) = true).symm.trans hb))
              refine W_seq ?_
              refine W_y (s' := LS.mk 21 [(2, aB true)] []) mixed [qn0] ⟨[2], [], [], [], [], [], []⟩ aN (by kernel_rfl) ?_
              refine W_ret ?_
              exact kr [] _ _ (by kernel_rfl) (Option.some.inj h)
            · have hx12 := hb11
              have h := if_f h hx12
              refine W_seq ?_
              refine W_y (s' := LS.mk 21 [(3, aS a0), (4, aB (decide (a0 = ([114, 101, 116, 117, 114, 110] : List UInt8))))] []) mixed [qn (.val (.bool (decide (a0 = ([114, 101, 116, 117, 114, 110] : List UInt8))))), qn0] ⟨[3, 4], [], [], [], [], [], []⟩ (aC (str_eq_ob (P := Try.prog) 9 a0 ([114, 101, 116, 117, 114, 110] : List UInt8)) aN) (by kernel_rfl) ?_
              refine W_cond (decide (a0 = ([114, 101, 116, 117, 114, 110] : List UInt8))) (by kernel_rfl) (fun hb13 => ?_) (fun hb13 => ?_)
              · have hx14 := hb13
                have h := if_t h hx14
                refine W_skip ?_
                refine W_cond (decide (a0 = ([114, 101, 116, 117, 114, 110] : List UInt8))) (by kernel_rfl) (fun _ => ?_) (fun hb => nomatch ((hx14 : (decide (a0 = ([114, 101, 116, 117, 114, 110] : List UInt8))) = true).symm.trans hb))
                refine W_seq ?_
                refine W_y (s' := LS.mk 21 [(2, aB true)] []) mixed [qn0] ⟨[2], [], [], [], [], [], []⟩ aN (by kernel_rfl) ?_
                refine W_ret ?_
                exact kr [] _ _ (by kernel_rfl) (Option.some.inj h)
              · have hx14 := hb13
                have h := if_f h hx14
                refine W_seq ?_
                refine W_y (s' := LS.mk 21 [(3, aS a0), (4, aB (decide (a0 = ([112, 114, 105, 110, 116] : List UInt8))))] []) mixed [qn (.val (.bool (decide (a0 = ([112, 114, 105, 110, 116] : List UInt8))))), qn0] ⟨[3, 4], [], [], [], [], [], []⟩ (aC (str_eq_ob (P := Try.prog) 9 a0 ([112, 114, 105, 110, 116] : List UInt8)) aN) (by kernel_rfl) ?_
                refine W_cond (decide (a0 = ([112, 114, 105, 110, 116] : List UInt8))) (by kernel_rfl) (fun hb15 => ?_) (fun hb15 => ?_)
                · have hx16 := hb15
                  have h := if_t h hx16
                  refine W_skip ?_
                  refine W_cond (decide (a0 = ([112, 114, 105, 110, 116] : List UInt8))) (by kernel_rfl) (fun _ => ?_) (fun hb => nomatch ((hx16 : (decide (a0 = ([112, 114, 105, 110, 116] : List UInt8))) = true).symm.trans hb))
                  refine W_seq ?_
                  refine W_y (s' := LS.mk 21 [(2, aB true)] []) mixed [qn0] ⟨[2], [], [], [], [], [], []⟩ aN (by kernel_rfl) ?_
                  refine W_ret ?_
                  exact kr [] _ _ (by kernel_rfl) (Option.some.inj h)
                · have hx16 := hb15
                  have h := if_f h hx16
                  refine W_seq ?_
                  refine W_y (s' := LS.mk 21 [(3, aS a0), (4, aB (decide (a0 = ([116, 114, 117, 101] : List UInt8))))] []) mixed [qn (.val (.bool (decide (a0 = ([116, 114, 117, 101] : List UInt8))))), qn0] ⟨[3, 4], [], [], [], [], [], []⟩ (aC (str_eq_ob (P := Try.prog) 9 a0 ([116, 114, 117, 101] : List UInt8)) aN) (by kernel_rfl) ?_
                  refine W_cond (decide (a0 = ([116, 114, 117, 101] : List UInt8))) (by kernel_rfl) (fun hb17 => ?_) (fun hb17 => ?_)
                  · have hx18 := hb17
                    have h := if_t h hx18
                    refine W_skip ?_
                    refine W_cond (decide (a0 = ([116, 114, 117, 101] : List UInt8))) (by kernel_rfl) (fun _ => ?_) (fun hb => nomatch ((hx18 : (decide (a0 = ([116, 114, 117, 101] : List UInt8))) = true).symm.trans hb))
                    refine W_seq ?_
                    refine W_y (s' := LS.mk 21 [(2, aB true)] []) mixed [qn0] ⟨[2], [], [], [], [], [], []⟩ aN (by kernel_rfl) ?_
                    refine W_ret ?_
                    exact kr [] _ _ (by kernel_rfl) (Option.some.inj h)
                  · have hx18 := hb17
                    have h := if_f h hx18
                    refine W_seq ?_
                    refine W_y (s' := LS.mk 21 [(3, aS a0), (4, aB (decide (a0 = ([102, 97, 108, 115, 101] : List UInt8))))] []) mixed [qn (.val (.bool (decide (a0 = ([102, 97, 108, 115, 101] : List UInt8))))), qn0] ⟨[3, 4], [], [], [], [], [], []⟩ (aC (str_eq_ob (P := Try.prog) 9 a0 ([102, 97, 108, 115, 101] : List UInt8)) aN) (by kernel_rfl) ?_
                    refine W_cond (decide (a0 = ([102, 97, 108, 115, 101] : List UInt8))) (by kernel_rfl) (fun hb19 => ?_) (fun hb19 => ?_)
                    · have hx20 := hb19
                      have h := if_t h hx20
                      refine W_skip ?_
                      refine W_cond (decide (a0 = ([102, 97, 108, 115, 101] : List UInt8))) (by kernel_rfl) (fun _ => ?_) (fun hb => nomatch ((hx20 : (decide (a0 = ([102, 97, 108, 115, 101] : List UInt8))) = true).symm.trans hb))
                      refine W_seq ?_
                      refine W_y (s' := LS.mk 21 [(2, aB true)] []) mixed [qn0] ⟨[2], [], [], [], [], [], []⟩ aN (by kernel_rfl) ?_
                      refine W_ret ?_
                      exact kr [] _ _ (by kernel_rfl) (Option.some.inj h)
                    · have hx20 := hb19
                      have h := if_f h hx20
                      refine W_seq ?_
                      refine W_y (s' := LS.mk 21 [(3, aS a0), (4, aB (decide (a0 = ([110, 105, 108] : List UInt8))))] []) mixed [qn (.val (.bool (decide (a0 = ([110, 105, 108] : List UInt8))))), qn0] ⟨[3, 4], [], [], [], [], [], []⟩ (aC (str_eq_ob (P := Try.prog) 9 a0 ([110, 105, 108] : List UInt8)) aN) (by kernel_rfl) ?_
                      refine W_cond (decide (a0 = ([110, 105, 108] : List UInt8))) (by kernel_rfl) (fun hb21 => ?_) (fun hb21 => ?_)
                      · have hx22 := hb21
                        have h := if_t h hx22
                        refine W_skip ?_
                        refine W_cond (decide (a0 = ([110, 105, 108] : List UInt8))) (by kernel_rfl) (fun _ => ?_) (fun hb => nomatch ((hx22 : (decide (a0 = ([110, 105, 108] : List UInt8))) = true).symm.trans hb))
                        refine W_seq ?_
                        refine W_y (s' := LS.mk 21 [(2, aB true)] []) mixed [qn0] ⟨[2], [], [], [], [], [], []⟩ aN (by kernel_rfl) ?_
                        refine W_ret ?_
                        exact kr [] _ _ (by kernel_rfl) (Option.some.inj h)
                      · have hx22 := hb21
                        have h := if_f h hx22
                        refine W_seq ?_
                        refine W_y (s' := LS.mk 21 [(3, aS a0), (4, aB (decide (a0 = ([109, 97, 107, 101] : List UInt8))))] []) mixed [qn (.val (.bool (decide (a0 = ([109, 97, 107, 101] : List UInt8))))), qn0] ⟨[3, 4], [], [], [], [], [], []⟩ (aC (str_eq_ob (P := Try.prog) 9 a0 ([109, 97, 107, 101] : List UInt8)) aN) (by kernel_rfl) ?_
                        refine W_cond (decide (a0 = ([109, 97, 107, 101] : List UInt8))) (by kernel_rfl) (fun hb23 => ?_) (fun hb23 => ?_)
                        · have hx24 := hb23
                          have h := if_t h hx24
                          refine W_skip ?_
                          refine W_cond (decide (a0 = ([109, 97, 107, 101] : List UInt8))) (by kernel_rfl) (fun _ => ?_) (fun hb => nomatch ((hx24 : (decide (a0 = ([109, 97, 107, 101] : List UInt8))) = true).symm.trans hb))
                          refine W_seq ?_
                          refine W_y (s' := LS.mk 21 [(2, aB true)] []) mixed [qn0] ⟨[2], [], [], [], [], [], []⟩ aN (by kernel_rfl) ?_
                          refine W_ret ?_
                          exact kr [] _ _ (by kernel_rfl) (Option.some.inj h)
                        · have hx24 := hb23
                          have h := if_f h hx24
                          refine W_seq ?_
                          refine W_y (s' := LS.mk 21 [(3, aS a0), (4, aB (decide (a0 = ([105, 110, 116] : List UInt8))))] []) mixed [qn (.val (.bool (decide (a0 = ([105, 110, 116] : List UInt8))))), qn0] ⟨[3, 4], [], [], [], [], [], []⟩ (aC (str_eq_ob (P := Try.prog) 9 a0 ([105, 110, 116] : List UInt8)) aN) (by kernel_rfl) ?_
                          refine W_cond (decide (a0 = ([105, 110, 116] : List UInt8))) (by kernel_rfl) (fun hb25 => ?_) (fun hb25 => ?_)
                          · have hx26 := hb25
                            have h := if_t h hx26
                            refine W_skip ?_
                            refine W_cond (decide (a0 = ([105, 110, 116] : List UInt8))) (by kernel_rfl) (fun _ => ?_) (fun hb => nomatch ((hx26 : (decide (a0 = ([105, 110, 116] : List UInt8))) = true).symm.trans hb))
                            refine W_seq ?_
                            refine W_y (s' := LS.mk 21 [(2, aB true)] []) mixed [qn0] ⟨[2], [], [], [], [], [], []⟩ aN (by kernel_rfl) ?_
                            refine W_ret ?_
                            exact kr [] _ _ (by kernel_rfl) (Option.some.inj h)
                          · have hx26 := hb25
                            have h := if_f h hx26
                            refine W_seq ?_
                            refine W_y (s' := LS.mk 21 [(3, aS a0), (4, aB (decide (a0 = ([98, 111, 111, 108] : List UInt8))))] []) mixed [qn (.val (.bool (decide (a0 = ([98, 111, 111, 108] : List UInt8))))), qn0] ⟨[3, 4], [], [], [], [], [], []⟩ (aC (str_eq_ob (P := Try.prog) 9 a0 ([98, 111, 111, 108] : List UInt8)) aN) (by kernel_rfl) ?_
                            refine W_cond (decide (a0 = ([98, 111, 111, 108] : List UInt8))) (by kernel_rfl) (fun hb27 => ?_) (fun hb27 => ?_)
                            · have hx28 := hb27
                              have h := if_t h hx28
                              refine W_skip ?_
                              refine W_cond (decide (a0 = ([98, 111, 111, 108] : List UInt8))) (by kernel_rfl) (fun _ => ?_) (fun hb => nomatch ((hx28 : (decide (a0 = ([98, 111, 111, 108] : List UInt8))) = true).symm.trans hb))
                              refine W_seq ?_
                              refine W_y (s' := LS.mk 21 [(2, aB true)] []) mixed [qn0] ⟨[2], [], [], [], [], [], []⟩ aN (by kernel_rfl) ?_
                              refine W_ret ?_
                              exact kr [] _ _ (by kernel_rfl) (Option.some.inj h)
                            · have hx28 := hb27
                              have h := if_f h hx28
                              refine W_seq ?_
                              refine W_y (s' := LS.mk 21 [(3, aS a0), (4, aB (decide (a0 = ([115, 116, 114] : List UInt8))))] []) mixed [qn (.val (.bool (decide (a0 = ([115, 116, 114] : List UInt8))))), qn0] ⟨[3, 4], [], [], [], [], [], []⟩ (aC (str_eq_ob (P := Try.prog) 9 a0 ([115, 116, 114] : List UInt8)) aN) (by kernel_rfl) ?_
                              refine W_cond (decide (a0 = ([115, 116, 114] : List UInt8))) (by kernel_rfl) (fun hb29 => ?_) (fun hb29 => ?_)
                              · have hx30 := hb29
                                have h := if_t h hx30
                                refine W_skip ?_
                                refine W_cond (decide (a0 = ([115, 116, 114] : List UInt8))) (by kernel_rfl) (fun _ => ?_) (fun hb => nomatch ((hx30 : (decide (a0 = ([115, 116, 114] : List UInt8))) = true).symm.trans hb))
                                refine W_seq ?_
                                refine W_y (s' := LS.mk 21 [(2, aB true)] []) mixed [qn0] ⟨[2], [], [], [], [], [], []⟩ aN (by kernel_rfl) ?_
                                refine W_ret ?_
                                exact kr [] _ _ (by kernel_rfl) (Option.some.inj h)
                              · have hx30 := hb29
                                have h := if_f h hx30
                                refine W_y (s' := LS.mk 21 [(4, aB (decide (a0 = ([99, 111, 109, 112] : List UInt8))))] []) mixed [qn (.val (.bool (decide (a0 = ([99, 111, 109, 112] : List UInt8))))), qn0] ⟨[4], [], [], [], [], [], []⟩ (aC (str_eq_ob (P := Try.prog) 9 a0 ([99, 111, 109, 112] : List UInt8)) aN) (by kernel_rfl) ?_
                                refine W_cond (decide (a0 = ([99, 111, 109, 112] : List UInt8))) (by kernel_rfl) (fun hb31 => ?_) (fun hb31 => ?_)
                                · have hx32 := hb31
                                  have h := if_t h hx32
                                  refine W_seq ?_
                                  refine W_y (s' := LS.mk 21 [(2, aB true)] []) mixed [qn0] ⟨[2], [], [], [], [], [], []⟩ aN (by kernel_rfl) ?_
                                  refine W_ret ?_
                                  exact kr [] _ _ (by kernel_rfl) (Option.some.inj h)
                                · have hx32 := hb31
                                  have h := if_f h hx32
                                  refine W_skip ?_
                                  refine W_seq ?_
                                  refine W_y (s' := LS.mk 21 [(2, aB false)] []) mixed [qn0] ⟨[2], [], [], [], [], [], []⟩ aN (by kernel_rfl) ?_
                                  refine W_ret ?_
                                  exact kr [] _ _ (by kernel_rfl) (Option.some.inj h)
def R_tree_letters (a0 : (List UInt8)) (a1 : Fv42) (r : Bool) : Prop := FnP Try.prog 35 [aS a0, .t (a1.t)] (aB r)
inductive tree_letters_C where
  | l0 (a0 : (List UInt8)) (n0_1021 : Nat)
  | j1 
abbrev tree_letters_C_T : tree_letters_C → Type := fun _ => Bool
noncomputable def tree_letters_l0_b (g : (i : tree_letters_C) → Option (tree_letters_C_T i)) (a0 : (List UInt8)) (n0_1021 : Nat) : Option Bool :=
  (if n0_1021 < a0.length then (if ((decodeR a0 n0_1021).1 : Int) = 95 then g (.l0 a0 (n0_1021 + (decodeR a0 n0_1021).2)) else (if ((decodeR a0 n0_1021).1 : Int) < 97 then (if ((decodeR a0 n0_1021).1 : Int) < 65 then (if ((decodeR a0 n0_1021).1 : Int) < 48 then (some false) else (if ((decodeR a0 n0_1021).1 : Int) > 57 then (some false) else g (.l0 a0 (n0_1021 + (decodeR a0 n0_1021).2)))) else (if ((decodeR a0 n0_1021).1 : Int) > 90 then (if ((decodeR a0 n0_1021).1 : Int) < 48 then (some false) else (if ((decodeR a0 n0_1021).1 : Int) > 57 then (some false) else g (.l0 a0 (n0_1021 + (decodeR a0 n0_1021).2)))) else g (.l0 a0 (n0_1021 + (decodeR a0 n0_1021).2)))) else (if ((decodeR a0 n0_1021).1 : Int) > 122 then (if ((decodeR a0 n0_1021).1 : Int) < 65 then (if ((decodeR a0 n0_1021).1 : Int) < 48 then (some false) else (if ((decodeR a0 n0_1021).1 : Int) > 57 then (some false) else g (.l0 a0 (n0_1021 + (decodeR a0 n0_1021).2)))) else (if ((decodeR a0 n0_1021).1 : Int) > 90 then (if ((decodeR a0 n0_1021).1 : Int) < 48 then (some false) else (if ((decodeR a0 n0_1021).1 : Int) > 57 then (some false) else g (.l0 a0 (n0_1021 + (decodeR a0 n0_1021).2)))) else g (.l0 a0 (n0_1021 + (decodeR a0 n0_1021).2)))) else g (.l0 a0 (n0_1021 + (decodeR a0 n0_1021).2))))) else g (.j1))
noncomputable def tree_letters_j1_b (g : (i : tree_letters_C) → Option (tree_letters_C_T i))  : Option Bool :=
  (some true)
noncomputable def tree_letters_B (g : (i : tree_letters_C) → Option (tree_letters_C_T i)) : (i : tree_letters_C) → Option (tree_letters_C_T i)
  | .l0 a0 n0_1021 => tree_letters_l0_b g a0 n0_1021
  | .j1  => tree_letters_j1_b g 
theorem tree_letters_B_fin (i : tree_letters_C) : Fin1 (fun g => tree_letters_B g i) := by
  cases i with
  | l0 a0 n0_1021 => show Fin1 (fun g => tree_letters_l0_b g a0 n0_1021); unfold tree_letters_l0_b; repeat (first | refine fin_bind ?_ (fun _ => ?_) | refine fin_ite ?_ ?_ | exact fin_ask _ | exact fin_const _)
  | j1  => show Fin1 (fun g => tree_letters_j1_b g ); unfold tree_letters_j1_b; repeat (first | refine fin_bind ?_ (fun _ => ?_) | refine fin_ite ?_ ?_ | exact fin_ask _ | exact fin_const _)
noncomputable def tree_letters_l0 (a0 : (List UInt8)) (n0_1021 : Nat) : Option Bool := fixD tree_letters_B (.l0 a0 n0_1021)
noncomputable def tree_letters_j1  : Option Bool := fixD tree_letters_B (.j1 )
theorem tree_letters_l0_eq (a0 : (List UInt8)) (n0_1021 : Nat) : tree_letters_l0 a0 n0_1021 =
  (if n0_1021 < a0.length then (if ((decodeR a0 n0_1021).1 : Int) = 95 then tree_letters_l0 a0 (n0_1021 + (decodeR a0 n0_1021).2) else (if ((decodeR a0 n0_1021).1 : Int) < 97 then (if ((decodeR a0 n0_1021).1 : Int) < 65 then (if ((decodeR a0 n0_1021).1 : Int) < 48 then (some false) else (if ((decodeR a0 n0_1021).1 : Int) > 57 then (some false) else tree_letters_l0 a0 (n0_1021 + (decodeR a0 n0_1021).2))) else (if ((decodeR a0 n0_1021).1 : Int) > 90 then (if ((decodeR a0 n0_1021).1 : Int) < 48 then (some false) else (if ((decodeR a0 n0_1021).1 : Int) > 57 then (some false) else tree_letters_l0 a0 (n0_1021 + (decodeR a0 n0_1021).2))) else tree_letters_l0 a0 (n0_1021 + (decodeR a0 n0_1021).2))) else (if ((decodeR a0 n0_1021).1 : Int) > 122 then (if ((decodeR a0 n0_1021).1 : Int) < 65 then (if ((decodeR a0 n0_1021).1 : Int) < 48 then (some false) else (if ((decodeR a0 n0_1021).1 : Int) > 57 then (some false) else tree_letters_l0 a0 (n0_1021 + (decodeR a0 n0_1021).2))) else (if ((decodeR a0 n0_1021).1 : Int) > 90 then (if ((decodeR a0 n0_1021).1 : Int) < 48 then (some false) else (if ((decodeR a0 n0_1021).1 : Int) > 57 then (some false) else tree_letters_l0 a0 (n0_1021 + (decodeR a0 n0_1021).2))) else tree_letters_l0 a0 (n0_1021 + (decodeR a0 n0_1021).2))) else tree_letters_l0 a0 (n0_1021 + (decodeR a0 n0_1021).2)))) else tree_letters_j1) := fix_eq tree_letters_B_fin _
theorem tree_letters_j1_eq  : tree_letters_j1  =
  (some true) := fix_eq tree_letters_B_fin _
set_option maxRecDepth 100000 in
theorem tree_letters_l0_ok (n : Nat)  (a0 : (List UInt8)) (n0_1021 : Nat) (r_ : Bool) (Q' : Exit → St → Prop) (kr : ∀ (ns : List (Nat × Nat × Nat)) (s : LS) (x : Bool), retX Try.prog ns [.tmp 4] s = some (aB x) → x = r_ → Q' .ret s.st) (k_x_0 : ∀ (q : Nat), q < n → ∀  (s' : LS), recN tree_letters_B q (.j1 ) = some r_ → Fits s'.st (LS.mk 51 [] []).st → Q' (.exit 0) s'.st) (h : recN tree_letters_B n (.l0 a0 n0_1021) = some r_) : W Try.prog (subC (bodyC Try.prog 35) [1, 1, 0, 1, 0]) (LS.mk 51 [(21, .ob 1021)] [(1021, some (.obj (.iter (mkS a0) n0_1021)))]).st Q' := by
  refine W_fix (σ := Nat) (fun m x_ => m ≤ n ∧ recN tree_letters_B m (.l0 a0 x_) = some r_) (fun x_ => LS.mk 51 [(21, .ob 1021)] [(1021, some (.obj (.iter (mkS a0) x_)))]) (fun x hx => by cases hx.2) (fun _ _ => rfl) ?_ n (n0_1021) ⟨Nat.le_refl _, h⟩
  clear h
  rintro m n0_1021 ⟨hlt, h⟩
  replace h : tree_letters_l0_b (recN tree_letters_B m) a0 n0_1021 = some r_ := h
  unfold tree_letters_l0_b at h
  refine W_seq ?_
  refine (Bool.eq_false_or_eq_true (decide (n0_1021 < a0.length))).elim (fun hb1001 => ?_) (fun hb1001 => ?_)
  · have hx1002 := hb1001
    have h := if_t h hx1002
    refine W_y (s' := LS.mk 51 [(21, .ob 1021), (22, .tup [aB true, aI .i64 ((n0_1021 : Nat) : Int), aI .i32 ((decodeR a0 n0_1021).1 : Int)]), (23, aB true)] [(1021, some (.obj (.iter (mkS a0) (n0_1021 + (decodeR a0 n0_1021).2))))]) mixed [qn (.sets 0 (.obj (.iter (mkS a0) (n0_1021 + (decodeR a0 n0_1021).2))) (.tup [aB true, aI .i64 ((n0_1021 : Nat) : Int), aI .i32 ((decodeR a0 n0_1021).1 : Int)])), qn0] ⟨[21, 22, 23], [], [], [], [(1021, 1021)], [], []⟩ (aC (show OwnSet Try.prog (opAt (subC (bodyC Try.prog 35) [1, 1, 0, 1, 0, 0, 0]) 0) 0 (.obj (.iter (mkS a0) n0_1021)) [.dead] (.obj (.iter (mkS a0) (n0_1021 + (decodeR a0 n0_1021).2))) (.tup [aB true, aI .i64 ((n0_1021 : Nat) : Int), aI .i32 ((decodeR a0 n0_1021).1 : Int)]) from next_in_ob (by rfl) _ _ (of_decide_eq_true hx1002)) aN) (by kernel_rfl) ?_
    refine W_seq ?_
    refine W_cond true (by kernel_rfl) (fun _ => ?_) (fun hb => nomatch ((rfl : true = true).symm.trans hb))
    refine W_skip ?_
    refine W_block ?_
    refine W_seq ?_
    refine W_y (s' := LS.mk 51 [(6, aI .i32 ((decodeR a0 n0_1021).1 : Int)), (21, .ob 1021)] [(1021, some (.obj (.iter (mkS a0) (n0_1021 + (decodeR a0 n0_1021).2))))]) mixed [qn0, qn0] ⟨[6, 21], [], [], [], [(1021, 1021)], [], []⟩ aN (by kernel_rfl) ?_
    refine W_seq ?_
    refine (Bool.eq_false_or_eq_true (!(decide (((decodeR a0 n0_1021).1 : Int) = 95)))).elim (fun hb1003 => ?_) (fun hb1003 => ?_)
    · have hx1004 : (decide (((decodeR a0 n0_1021).1 : Int) = 95)) = false := (bnot_t hb1003)
      have h := if_f h hx1004
      refine (Bool.eq_false_or_eq_true (decide (((decodeR a0 n0_1021).1 : Int) < 97))).elim (fun hb1005 => ?_) (fun hb1005 => ?_)
      · have hx1006 := hb1005
        have h := if_t h hx1006
        refine (Bool.eq_false_or_eq_true (decide (((decodeR a0 n0_1021).1 : Int) < 65))).elim (fun hb1007 => ?_) (fun hb1007 => ?_)
        · have hx1008 := hb1007
          have h := if_t h hx1008
          refine (Bool.eq_false_or_eq_true (decide (((decodeR a0 n0_1021).1 : Int) < 48))).elim (fun hb1009 => ?_) (fun hb1009 => ?_)
          · have hx1010 := hb1009
            have h := if_t h hx1010
            refine W_y (s' := LS.mk 51 [(21, .ob 1021), (50, aB true)] [(1021, some (.obj (.iter (mkS a0) (n0_1021 + (decodeR a0 n0_1021).2))))]) mixed [qn0, qn0, qn0, qt0, qt0, qt0, qt0, qt0, qt (.dec true), qn (.dec true), qn0, qn0, qn0, qn0, qt0, qt0, qn (.dec true), qn0, qn0, qn0, qn0, qn0, qt0, qt0, qn (.dec true), qn0] ⟨[21, 50], [], [], [], [(1021, 1021)], [], []⟩ (aC (not_f hx1004) (aC (not_f hx1004) (aC (not_f hx1004) (aC hx1006 (aC hx1006 (aC (not_f hx1004) (aC hx1006 (aC (not_f hx1004) (aC hx1008 (aC hx1008 (aC hx1008 (aC hx1010 (aC hx1010 (aC hx1010 aN)))))))))))))) (by kernel_rfl) ?_
            refine W_cond true (by kernel_rfl) (fun _ => ?_) (fun hb => nomatch ((rfl : true = true).symm.trans hb))
            refine W_seq ?_
            refine W_y (s' := LS.mk 51 [(4, aB false)] []) mixed [qn0] ⟨[4], [], [], [], [], [], []⟩ aN (by kernel_rfl) ?_
            refine W_ret ?_
            exact kr [] _ _ (by kernel_rfl) (Option.some.inj h)
          · have hx1010 := hb1009
            have h := if_f h hx1010
            refine W_y (s' := LS.mk 51 [(21, .ob 1021), (50, aB (decide (((decodeR a0 n0_1021).1 : Int) > 57)))] [(1021, some (.obj (.iter (mkS a0) (n0_1021 + (decodeR a0 n0_1021).2))))]) mixed [qn0, qn0, qn0, qt0, qt0, qt0, qt0, qt0, qt (.dec true), qn (.dec true), qn0, qn0, qn0, qn0, qt0, qt0, qn (.dec true), qn0, qn0, qn0, qn0, qn0, qf0, qf0, qn (.dec false), qn0] ⟨[21, 50], [], [], [], [(1021, 1021)], [], []⟩ (aC (not_f hx1004) (aC (not_f hx1004) (aC (not_f hx1004) (aC hx1006 (aC hx1006 (aC (not_f hx1004) (aC hx1006 (aC (not_f hx1004) (aC hx1008 (aC hx1008 (aC hx1008 (aC hx1010 (aC hx1010 (aC hx1010 aN)))))))))))))) (by kernel_rfl) ?_
            refine W_cond (decide (((decodeR a0 n0_1021).1 : Int) > 57)) (by kernel_rfl) (fun hb1011 => ?_) (fun hb1011 => ?_)
            · have hx1012 := hb1011
              have h := if_t h hx1012
              refine W_seq ?_
              refine W_y (s' := LS.mk 51 [(4, aB false)] []) mixed [qn0] ⟨[4], [], [], [], [], [], []⟩ aN (by kernel_rfl) ?_
              refine W_ret ?_
              exact kr [] _ _ (by kernel_rfl) (Option.some.inj h)
            · have hx1012 := hb1011
              have h := if_f h hx1012
              refine W_skip ?_
              exact ⟨m, ((n0_1021 + (decodeR a0 n0_1021).2)), Nat.le_refl _, ⟨Nat.le_of_lt hlt, h⟩, convX_fits (v := ⟨[21], [], [], [], [(1021, 1021)], [], []⟩) (s' := LS.mk 51 [(21, .ob 1021)] [(1021, some (.obj (.iter (mkS a0) (n0_1021 + (decodeR a0 n0_1021).2))))]) (by kernel_rfl)⟩
        · have hx1008 := hb1007
          have h := if_f h hx1008
          refine (Bool.eq_false_or_eq_true (decide (((decodeR a0 n0_1021).1 : Int) > 90))).elim (fun hb1013 => ?_) (fun hb1013 => ?_)
          · have hx1014 := hb1013
            have h := if_t h hx1014
            refine (Bool.eq_false_or_eq_true (decide (((decodeR a0 n0_1021).1 : Int) < 48))).elim (fun hb1015 => ?_) (fun hb1015 => ?_)
            · have hx1016 := hb1015
              have h := if_t h hx1016
              refine W_y (s' := LS.mk 51 [(21, .ob 1021), (50, aB true)] [(1021, some (.obj (.iter (mkS a0) (n0_1021 + (decodeR a0 n0_1021).2))))]) mixed [qn0, qn0, qn0, qt0, qt0, qt0, qt0, qt0, qt (.dec true), qn (.dec true), qn0, qn0, qn0, qn0, qf0, qf0, qn (.dec false), qn0, qn0, qt0, qt0, qt0, qt0, qt0, qt (.dec true), qn (.dec true)] ⟨[21, 50], [], [], [], [(1021, 1021)], [], []⟩ (aC (not_f hx1004) (aC (not_f hx1004) (aC (not_f hx1004) (aC hx1006 (aC hx1006 (aC (not_f hx1004) (aC hx1006 (aC (not_f hx1004) (aC hx1008 (aC hx1008 (aC hx1008 (aC hx1014 (aC hx1014 (aC hx1014 (aC hx1016 (aC hx1016 (aC hx1014 (aC hx1016 (aC hx1014 aN))))))))))))))))))) (by kernel_rfl) ?_
              refine W_cond true (by kernel_rfl) (fun _ => ?_) (fun hb => nomatch ((rfl : true = true).symm.trans hb))
              refine W_seq ?_
              refine W_y (s' := LS.mk 51 [(4, aB false)] []) mixed [qn0] ⟨[4], [], [], [], [], [], []⟩ aN (by kernel_rfl) ?_
              refine W_ret ?_
              exact kr [] _ _ (by kernel_rfl) (Option.some.inj h)
            · have hx1016 := hb1015
              have h := if_f h hx1016
              refine W_y (s' := LS.mk 51 [(21, .ob 1021), (50, aB (decide (((decodeR a0 n0_1021).1 : Int) > 57)))] [(1021, some (.obj (.iter (mkS a0) (n0_1021 + (decodeR a0 n0_1021).2))))]) mixed [qn0, qn0, qn0, qt0, qt0, qt0, qt0, qt0, qt (.dec true), qn (.dec true), qn0, qn0, qn0, qn0, qf0, qf0, qn (.dec false), qn0, qn0, qt0, qt0, qt0, qf0, qf0, qt (.dec false), qn (.dec true)] ⟨[21, 50], [], [], [], [(1021, 1021)], [], []⟩ (aC (not_f hx1004) (aC (not_f hx1004) (aC (not_f hx1004) (aC hx1006 (aC hx1006 (aC (not_f hx1004) (aC hx1006 (aC (not_f hx1004) (aC hx1008 (aC hx1008 (aC hx1008 (aC hx1014 (aC hx1014 (aC hx1014 (aC hx1016 (aC hx1016 (aC hx1014 (aC hx1016 (aC hx1014 aN))))))))))))))))))) (by kernel_rfl) ?_
              refine W_cond (decide (((decodeR a0 n0_1021).1 : Int) > 57)) (by kernel_rfl) (fun hb1017 => ?_) (fun hb1017 => ?_)
              · have hx1018 := hb1017
                have h := if_t h hx1018
                refine W_seq ?_
                refine W_y (s' := LS.mk 51 [(4, aB false)] []) mixed [qn0] ⟨[4], [], [], [], [], [], []⟩ aN (by kernel_rfl) ?_
                refine W_ret ?_
                exact kr [] _ _ (by kernel_rfl) (Option.some.inj h)
              · have hx1018 := hb1017
                have h := if_f h hx1018
                refine W_skip ?_
                exact ⟨m, ((n0_1021 + (decodeR a0 n0_1021).2)), Nat.le_refl _, ⟨Nat.le_of_lt hlt, h⟩, convX_fits (v := ⟨[21], [], [], [], [(1021, 1021)], [], []⟩) (s' := LS.mk 51 [(21, .ob 1021)] [(1021, some (.obj (.iter (mkS a0) (n0_1021 + (decodeR a0 n0_1021).2))))]) (by kernel_rfl)⟩
          · have hx1014 := hb1013
            have h := if_f h hx1014
            refine W_y (s' := LS.mk 51 [(21, .ob 1021), (50, aB false)] [(1021, some (.obj (.iter (mkS a0) (n0_1021 + (decodeR a0 n0_1021).2))))]) mixed [qn0, qn0, qn0, qt0, qt0, qt0, qt0, qt0, qt (.dec true), qn (.dec true), qn0, qn0, qn0, qn0, qf0, qf0, qn (.dec false), qn0, qn0, qf0, qf0, qf0, qn0, qn0, qf0, qn (.dec false)] ⟨[21, 50], [], [], [], [(1021, 1021)], [], []⟩ (aC (not_f hx1004) (aC (not_f hx1004) (aC (not_f hx1004) (aC hx1006 (aC hx1006 (aC (not_f hx1004) (aC hx1006 (aC (not_f hx1004) (aC hx1008 (aC hx1008 (aC hx1008 (aC hx1014 (aC hx1014 (aC hx1014 (aC hx1014 (aC hx1014 aN)))))))))))))))) (by kernel_rfl) ?_
            refine W_cond false (by kernel_rfl) (fun hb => nomatch ((rfl : false = false).symm.trans hb)) (fun _ => ?_)
            refine W_skip ?_
            exact ⟨m, ((n0_1021 + (decodeR a0 n0_1021).2)), Nat.le_refl _, ⟨Nat.le_of_lt hlt, h⟩, convX_fits (v := ⟨[21], [], [], [], [(1021, 1021)], [], []⟩) (s' := LS.mk 51 [(21, .ob 1021)] [(1021, some (.obj (.iter (mkS a0) (n0_1021 + (decodeR a0 n0_1021).2))))]) (by kernel_rfl)⟩
      · have hx1006 := hb1005
        have h := if_f h hx1006
        refine (Bool.eq_false_or_eq_true (decide (((decodeR a0 n0_1021).1 : Int) > 122))).elim (fun hb1019 => ?_) (fun hb1019 => ?_)
        · have hx1020 := hb1019
          have h := if_t h hx1020
          refine (Bool.eq_false_or_eq_true (decide (((decodeR a0 n0_1021).1 : Int) < 65))).elim (fun hb1021 => ?_) (fun hb1021 => ?_)
          · have hx1022 := hb1021
            have h := if_t h hx1022
            refine (Bool.eq_false_or_eq_true (decide (((decodeR a0 n0_1021).1 : Int) < 48))).elim (fun hb1023 => ?_) (fun hb1023 => ?_)
            · have hx1024 := hb1023
              have h := if_t h hx1024
              refine W_y (s' := LS.mk 51 [(21, .ob 1021), (50, aB true)] [(1021, some (.obj (.iter (mkS a0) (n0_1021 + (decodeR a0 n0_1021).2))))]) mixed [qn0, qn0, qn0, qt0, qt0, qt0, qf0, qf0, qt (.dec false), qn (.dec true), qn0, qt0, qt0, qt0, qt0, qt0, qt (.dec true), qn (.dec true), qn0, qn0, qn0, qn0, qt0, qt0, qn (.dec true), qn0] ⟨[21, 50], [], [], [], [(1021, 1021)], [], []⟩ (aC (not_f hx1004) (aC (not_f hx1004) (aC (not_f hx1004) (aC hx1006 (aC hx1006 (aC (not_f hx1004) (aC hx1006 (aC (not_f hx1004) (aC hx1020 (aC hx1020 (aC hx1020 (aC hx1022 (aC hx1022 (aC hx1020 (aC hx1022 (aC hx1020 (aC hx1024 (aC hx1024 (aC hx1024 aN))))))))))))))))))) (by kernel_rfl) ?_
              refine W_cond true (by kernel_rfl) (fun _ => ?_) (fun hb => nomatch ((rfl : true = true).symm.trans hb))
              refine W_seq ?_
              refine W_y (s' := LS.mk 51 [(4, aB false)] []) mixed [qn0] ⟨[4], [], [], [], [], [], []⟩ aN (by kernel_rfl) ?_
              refine W_ret ?_
              exact kr [] _ _ (by kernel_rfl) (Option.some.inj h)
            · have hx1024 := hb1023
              have h := if_f h hx1024
              refine W_y (s' := LS.mk 51 [(21, .ob 1021), (50, aB (decide (((decodeR a0 n0_1021).1 : Int) > 57)))] [(1021, some (.obj (.iter (mkS a0) (n0_1021 + (decodeR a0 n0_1021).2))))]) mixed [qn0, qn0, qn0, qt0, qt0, qt0, qf0, qf0, qt (.dec false), qn (.dec true), qn0, qt0, qt0, qt0, qt0, qt0, qt (.dec true), qn (.dec true), qn0, qn0, qn0, qn0, qf0, qf0, qn (.dec false), qn0] ⟨[21, 50], [], [], [], [(1021, 1021)], [], []⟩ (aC (not_f hx1004) (aC (not_f hx1004) (aC (not_f hx1004) (aC hx1006 (aC hx1006 (aC (not_f hx1004) (aC hx1006 (aC (not_f hx1004) (aC hx1020 (aC hx1020 (aC hx1020 (aC hx1022 (aC hx1022 (aC hx1020 (aC hx1022 (aC hx1020 (aC hx1024 (aC hx1024 (aC hx1024 aN))))))))))))))))))) (by kernel_rfl) ?_
              refine W_cond (decide (((decodeR a0 n0_1021).1 : Int) > 57)) (by kernel_rfl) (fun hb1025 => ?_) (fun hb1025 => ?_)
              · have hx1026 := hb1025
                have h := if_t h hx1026
                refine W_seq ?_
                refine W_y (s' := LS.mk 51 [(4, aB false)] []) mixed [qn0] ⟨[4], [], [], [], [], [], []⟩ aN (by kernel_rfl) ?_
                refine W_ret ?_
                exact kr [] _ _ (by kernel_rfl) (Option.some.inj h)
              · have hx1026 := hb1025
                have h := if_f h hx1026
                refine W_skip ?_
                exact ⟨m, ((n0_1021 + (decodeR a0 n0_1021).2)), Nat.le_refl _, ⟨Nat.le_of_lt hlt, h⟩, convX_fits (v := ⟨[21], [], [], [], [(1021, 1021)], [], []⟩) (s' := LS.mk 51 [(21, .ob 1021)] [(1021, some (.obj (.iter (mkS a0) (n0_1021 + (decodeR a0 n0_1021).2))))]) (by kernel_rfl)⟩
          · have hx1022 := hb1021
            have h := if_f h hx1022
            refine (Bool.eq_false_or_eq_true (decide (((decodeR a0 n0_1021).1 : Int) > 90))).elim (fun hb1027 => ?_) (fun hb1027 => ?_)
            · have hx1028 := hb1027
              have h := if_t h hx1028
              refine (Bool.eq_false_or_eq_true (decide (((decodeR a0 n0_1021).1 : Int) < 48))).elim (fun hb1029 => ?_) (fun hb1029 => ?_)
              · have hx1030 := hb1029
                have h := if_t h hx1030
                refine W_y (s' := LS.mk 51 [(21, .ob 1021), (50, aB true)] [(1021, some (.obj (.iter (mkS a0) (n0_1021 + (decodeR a0 n0_1021).2))))]) mixed [qn0, qn0, qn0, qt0, qt0, qt0, qf0, qf0, qt (.dec false), qn (.dec true), qn0, qt0, qt0, qt0, qf0, qf0, qt (.dec false), qn (.dec true), qn0, qt0, qt0, qt0, qt0, qt0, qt (.dec true), qn (.dec true)] ⟨[21, 50], [], [], [], [(1021, 1021)], [], []⟩ (aC (not_f hx1004) (aC (not_f hx1004) (aC (not_f hx1004) (aC hx1006 (aC hx1006 (aC (not_f hx1004) (aC hx1006 (aC (not_f hx1004) (aC hx1020 (aC hx1020 (aC hx1020 (aC hx1022 (aC hx1022 (aC hx1020 (aC hx1022 (aC hx1020 (aC hx1028 (aC hx1028 (aC hx1028 (aC hx1030 (aC hx1030 (aC hx1028 (aC hx1030 (aC hx1028 aN)))))))))))))))))))))))) (by kernel_rfl) ?_
                refine W_cond true (by kernel_rfl) (fun _ => ?_) (fun hb => nomatch ((rfl : true = true).symm.trans hb))
                refine W_seq ?_
                refine W_y (s' := LS.mk 51 [(4, aB false)] []) mixed [qn0] ⟨[4], [], [], [], [], [], []⟩ aN (by kernel_rfl) ?_
                refine W_ret ?_
                exact kr [] _ _ (by kernel_rfl) (Option.some.inj h)
              · have hx1030 := hb1029
                have h := if_f h hx1030
                refine W_y (s' := LS.mk 51 [(21, .ob 1021), (50, aB (decide (((decodeR a0 n0_1021).1 : Int) > 57)))] [(1021, some (.obj (.iter (mkS a0) (n0_1021 + (decodeR a0 n0_1021).2))))]) mixed [qn0, qn0, qn0, qt0, qt0, qt0, qf0, qf0, qt (.dec false), qn (.dec true), qn0, qt0, qt0, qt0, qf0, qf0, qt (.dec false), qn (.dec true), qn0, qt0, qt0, qt0, qf0, qf0, qt (.dec false), qn (.dec true)] ⟨[21, 50], [], [], [], [(1021, 1021)], [], []⟩ (aC (not_f hx1004) (aC (not_f hx1004) (aC (not_f hx1004) (aC hx1006 (aC hx1006 (aC (not_f hx1004) (aC hx1006 (aC (not_f hx1004) (aC hx1020 (aC hx1020 (aC hx1020 (aC hx1022 (aC hx1022 (aC hx1020 (aC hx1022 (aC hx1020 (aC hx1028 (aC hx1028 (aC hx1028 (aC hx1030 (aC hx1030 (aC hx1028 (aC hx1030 (aC hx1028 aN)))))))))))))))))))))))) (by kernel_rfl) ?_
                refine W_cond (decide (((decodeR a0 n0_1021).1 : Int) > 57)) (by kernel_rfl) (fun hb1031 => ?_) (fun hb1031 => ?_)
                · have hx1032 := hb1031
                  have h := if_t h hx1032
                  refine W_seq ?_
                  refine W_y (s' := LS.mk 51 [(4, aB false)] []) mixed [qn0] ⟨[4], [], [], [], [], [], []⟩ aN (by kernel_rfl) ?_
                  refine W_ret ?_
                  exact kr [] _ _ (by kernel_rfl) (Option.some.inj h)
                · have hx1032 := hb1031
                  have h := if_f h hx1032
                  refine W_skip ?_
                  exact ⟨m, ((n0_1021 + (decodeR a0 n0_1021).2)), Nat.le_refl _, ⟨Nat.le_of_lt hlt, h⟩, convX_fits (v := ⟨[21], [], [], [], [(1021, 1021)], [], []⟩) (s' := LS.mk 51 [(21, .ob 1021)] [(1021, some (.obj (.iter (mkS a0) (n0_1021 + (decodeR a0 n0_1021).2))))]) (by kernel_rfl)⟩
            · have hx1028 := hb1027
              have h := if_f h hx1028
              refine W_y (s' := LS.mk 51 [(21, .ob 1021), (50, aB false)] [(1021, some (.obj (.iter (mkS a0) (n0_1021 + (decodeR a0 n0_1021).2))))]) mixed [qn0, qn0, qn0, qt0, qt0, qt0, qf0, qf0, qt (.dec false), qn (.dec true), qn0, qt0, qt0, qt0, qf0, qf0, qt (.dec false), qn (.dec true), qn0, qf0, qf0, qf0, qn0, qn0, qf0, qn (.dec false)] ⟨[21, 50], [], [], [], [(1021, 1021)], [], []⟩ (aC (not_f hx1004) (aC (not_f hx1004) (aC (not_f hx1004) (aC hx1006 (aC hx1006 (aC (not_f hx1004) (aC hx1006 (aC (not_f hx1004) (aC hx1020 (aC hx1020 (aC hx1020 (aC hx1022 (aC hx1022 (aC hx1020 (aC hx1022 (aC hx1020 (aC hx1028 (aC hx1028 (aC hx1028 (aC hx1028 (aC hx1028 aN))))))))))))))))))))) (by kernel_rfl) ?_
              refine W_cond false (by kernel_rfl) (fun hb => nomatch ((rfl : false = false).symm.trans hb)) (fun _ => ?_)
              refine W_skip ?_
              exact ⟨m, ((n0_1021 + (decodeR a0 n0_1021).2)), Nat.le_refl _, ⟨Nat.le_of_lt hlt, h⟩, convX_fits (v := ⟨[21], [], [], [], [(1021, 1021)], [], []⟩) (s' := LS.mk 51 [(21, .ob 1021)] [(1021, some (.obj (.iter (mkS a0) (n0_1021 + (decodeR a0 n0_1021).2))))]) (by kernel_rfl)⟩
        · have hx1020 := hb1019
          have h := if_f h hx1020
          refine W_y (s' := LS.mk 51 [(21, .ob 1021), (50, aB false)] [(1021, some (.obj (.iter (mkS a0) (n0_1021 + (decodeR a0 n0_1021).2))))]) mixed [qn0, qn0, qn0, qt0, qt0, qt0, qf0, qf0, qt (.dec false), qn (.dec true), qn0, qf0, qf0, qf0, qn0, qn0, qf0, qn (.dec false), qn0, qn0, qn0, qn0, qn0, qn0, qn0, qn0] ⟨[21, 50], [], [], [], [(1021, 1021)], [], []⟩ (aC (not_f hx1004) (aC (not_f hx1004) (aC (not_f hx1004) (aC hx1006 (aC hx1006 (aC (not_f hx1004) (aC hx1006 (aC (not_f hx1004) (aC hx1020 (aC hx1020 (aC hx1020 (aC hx1020 (aC hx1020 aN))))))))))))) (by kernel_rfl) ?_
          refine W_cond false (by kernel_rfl) (fun hb => nomatch ((rfl : false = false).symm.trans hb)) (fun _ => ?_)
          refine W_skip ?_
          exact ⟨m, ((n0_1021 + (decodeR a0 n0_1021).2)), Nat.le_refl _, ⟨Nat.le_of_lt hlt, h⟩, convX_fits (v := ⟨[21], [], [], [], [(1021, 1021)], [], []⟩) (s' := LS.mk 51 [(21, .ob 1021)] [(1021, some (.obj (.iter (mkS a0) (n0_1021 + (decodeR a0 n0_1021).2))))]) (by kernel_rfl)⟩
    · have hx1004 : (decide (((decodeR a0 n0_1021).1 : Int) = 95)) = true := (bnot_f hb1003)
      have h := if_t h hx1004
      refine W_y (s' := LS.mk 51 [(21, .ob 1021), (50, aB false)] [(1021, some (.obj (.iter (mkS a0) (n0_1021 + (decodeR a0 n0_1021).2))))]) mixed [qn0, qn0, qn0, qf0, qf0, qf0, qn0, qn0, qf0, qn (.dec false), qn0, qn0, qn0, qn0, qn0, qn0, qn0, qn0, qn0, qn0, qn0, qn0, qn0, qn0, qn0, qn0] ⟨[21, 50], [], [], [], [(1021, 1021)], [], []⟩ (aC (not_t hx1004) (aC (not_t hx1004) (aC (not_t hx1004) (aC (not_t hx1004) (aC (not_t hx1004) aN))))) (by kernel_rfl) ?_
      refine W_cond false (by kernel_rfl) (fun hb => nomatch ((rfl : false = false).symm.trans hb)) (fun _ => ?_)
      refine W_skip ?_
      exact ⟨m, ((n0_1021 + (decodeR a0 n0_1021).2)), Nat.le_refl _, ⟨Nat.le_of_lt hlt, h⟩, convX_fits (v := ⟨[21], [], [], [], [(1021, 1021)], [], []⟩) (s' := LS.mk 51 [(21, .ob 1021)] [(1021, some (.obj (.iter (mkS a0) (n0_1021 + (decodeR a0 n0_1021).2))))]) (by kernel_rfl)⟩
  · have hx1002 := hb1001
    have h := if_f h hx1002
    refine W_y (s' := LS.mk 51 [(21, .ob 1021), (22, .tup [aB false]), (23, aB false)] [(1021, some (.obj (.iter (mkS a0) n0_1021)))]) mixed [qn (.sets 0 (.obj (.iter (mkS a0) n0_1021)) (.tup [aB false])), qn0] ⟨[21, 22, 23], [], [], [], [(1021, 1021)], [], []⟩ (aC (show OwnSet Try.prog (opAt (subC (bodyC Try.prog 35) [1, 1, 0, 1, 0, 0, 0]) 0) 0 (.obj (.iter (mkS a0) n0_1021)) [.dead] (.obj (.iter (mkS a0) n0_1021)) (.tup [aB false]) from next_end_ob (by rfl) _ _ (of_decide_eq_false hx1002)) aN) (by kernel_rfl) ?_
    refine W_seq ?_
    refine W_cond false (by kernel_rfl) (fun hb => nomatch ((rfl : false = false).symm.trans hb)) (fun _ => ?_)
    refine W_exit ?_
    exact k_x_0 m hlt  _ h (convX_fits (v := ⟨[], [], [], [], [], [], []⟩) (s' := LS.mk 51 [] []) (by kernel_rfl))
set_option maxRecDepth 100000 in
theorem tree_letters_j1_ok (n : Nat)   (r_ : Bool) (Q' : Exit → St → Prop) (kr : ∀ (ns : List (Nat × Nat × Nat)) (s : LS) (x : Bool), retX Try.prog ns [.tmp 4] s = some (aB x) → x = r_ → Q' .ret s.st)  (h : recN tree_letters_B n (.j1 ) = some r_) : W Try.prog (subC (bodyC Try.prog 35) [1, 1, 1]) (LS.mk 51 [] []).st Q' := by
  cases n with
  | zero => cases h
  | succ m =>
  have hlt : m < m + 1 := Nat.lt_succ_self m
  replace h : tree_letters_j1_b (recN tree_letters_B m)  = some r_ := h
  unfold tree_letters_j1_b at h
  refine W_seq ?_
  refine W_y (s' := LS.mk 51 [(4, aB true)] []) mixed [qn0] ⟨[4], [], [], [], [], [], []⟩ aN (by kernel_rfl) ?_
  refine W_ret ?_
  exact kr [] _ _ (by kernel_rfl) (Option.some.inj h)
noncomputable def tree_letters (a0 : (List UInt8)) (a1 : Fv42) : Option Bool :=
  (if a0 = ([] : List UInt8) then (some false) else ((getI a0 0).bind fun (x1_5 : UInt8) => ((a1.run (x1_5.toNat : Int)).bind fun (r1_6 : Bool) => (if r1_6 = true then ((lex_Word a0).bind fun (r1_11 : Bool) => (if r1_11 = true then (some false) else tree_letters_l0 a0 0)) else (some false)))))
set_option maxRecDepth 100000 in
theorem tree_letters_ok {a0 : (List UInt8)} {a1 : Fv42} {r_ : Bool} (h : tree_letters a0 a1 = some r_) : R_tree_letters a0 a1 r_ := by
  unfold tree_letters at h
  refine fn_pureX (fn := Try.f35) (by kernel_rfl) (c := subC (bodyC Try.prog 35) []) (by kernel_rfl) (by kernel_rfl) (Nat.le_of_ble_eq_true (by kernel_rfl)) ?_
  generalize hQ' : retQ Try.prog Try.f35 (aB r_) = Q'
  have kr : ∀ (ns : List (Nat × Nat × Nat)) (s : LS) (x : Bool), retX Try.prog ns [.tmp 4] s = some (aB x) → x = r_ → Q' .ret s.st := by subst hQ'; intro ns s x hx hq; subst hq; exact ret_ok (fn := Try.f35) ns hx
  change W Try.prog _ (LS.mk 51 [(0, aS a0), (1, .t (a1.t))] []).st Q'
  refine W_seq ?_
  refine W_y (s' := LS.mk 51 [(0, aS a0), (1, .t (a1.t))] []) mixed [qn0] ⟨[0, 1], [], [], [], [], [], []⟩ aN (by kernel_rfl) ?_
  refine W_seq ?_
  refine W_seq ?_
  refine (Bool.eq_false_or_eq_true (decide (a0 = ([] : List UInt8)))).elim (fun hb1 => ?_) (fun hb1 => ?_)
  · have hx2 := hb1
    have h := if_t h hx2
    refine W_y (s' := LS.mk 51 [(0, aS a0), (19, aB true)] []) mixed [qn0, qn (.val (.bool (decide (a0 = ([] : List UInt8))))), qn0, qt0, qt0, qt0, qt0, qt0, qn (.dec true), qn0, qn0, qn0, qn0] ⟨[0, 19], [], [], [], [], [], []⟩ (aC (str_eq_ob (P := Try.prog) 9 a0 ([] : List UInt8)) (aC hx2 (aC hx2 (aC hx2 (aC hx2 (aC hx2 (aC hx2 aN))))))) (by kernel_rfl) ?_
    refine W_cond true (by kernel_rfl) (fun _ => ?_) (fun hb => nomatch ((rfl : true = true).symm.trans hb))
    refine W_seq ?_
    refine W_y (s' := LS.mk 51 [(4, aB false)] []) mixed [qn0] ⟨[4], [], [], [], [], [], []⟩ aN (by kernel_rfl) ?_
    refine W_ret ?_
    exact kr [] _ _ (by kernel_rfl) (Option.some.inj h)
  · have hx2 := hb1
    have h := if_f h hx2
    obtain ⟨x1_5, hx1_5, h⟩ := bind_ok h
    obtain ⟨r1_6, hr1_6, h⟩ := bind_ok h
    refine (Bool.eq_false_or_eq_true (!r1_6)).elim (fun hb3 => ?_) (fun hb3 => ?_)
    · have hx4 : r1_6 = false := (bnot_t hb3)
      have h := ib_f h hx4
      refine W_y (s' := LS.mk 51 [(0, aS a0), (19, aB true)] []) mixed [qn0, qn (.val (.bool (decide (a0 = ([] : List UInt8))))), qn0, qf0, qf0, qf (.sx (Int.toNat 0) x1_5), qf (.callv (aB r1_6)), qf0, qn (.dec false), qn0, qt0, qt0, qn (.dec true)] ⟨[0, 19], [], [], [], [], [], []⟩ (aC (str_eq_ob (P := Try.prog) 9 a0 ([] : List UInt8)) (aC hx2 (aC hx2 (aC hx2 (aC (sx_ob hx1_5) (aC hx2 (aC (a1.ok _ _ hr1_6) (aC hx2 (aC hx2 (aC (not_f hx4) (aC (not_f hx4) (aC (not_f hx4) aN)))))))))))) (by kernel_rfl) ?_
      refine W_cond true (by kernel_rfl) (fun _ => ?_) (fun hb => nomatch ((rfl : true = true).symm.trans hb))
      refine W_seq ?_
      refine W_y (s' := LS.mk 51 [(4, aB false)] []) mixed [qn0] ⟨[4], [], [], [], [], [], []⟩ aN (by kernel_rfl) ?_
      refine W_ret ?_
      exact kr [] _ _ (by kernel_rfl) (Option.some.inj h)
    · have hx4 : r1_6 = true := (bnot_f hb3)
      have h := ib_t h hx4
      obtain ⟨r1_11, hr1_11, h⟩ := bind_ok h
      have hr1_11 := lex_Word_ok hr1_11
      refine W_y (s' := LS.mk 51 [(0, aS a0), (19, aB r1_11)] []) mixed [qn0, qn (.val (.bool (decide (a0 = ([] : List UInt8))))), qn0, qf0, qf0, qf (.sx (Int.toNat 0) x1_5), qf (.callv (aB r1_6)), qf0, qn (.dec false), qn0, qf0, qf (.call [] (aB r1_11)), qn (.dec false)] ⟨[0, 19], [], [], [], [], [], []⟩ (aC (str_eq_ob (P := Try.prog) 9 a0 ([] : List UInt8)) (aC hx2 (aC hx2 (aC hx2 (aC (sx_ob hx1_5) (aC hx2 (aC (a1.ok _ _ hr1_6) (aC hx2 (aC hx2 (aC (not_t hx4) (aC (not_t hx4) (aC hr1_11 (aC (not_t hx4) aN))))))))))))) (by kernel_rfl) ?_
      refine W_cond r1_11 (by kernel_rfl) (fun hb5 => ?_) (fun hb5 => ?_)
      · have hx6 := hb5
        have h := ib_t h hx6
        refine W_seq ?_
        refine W_y (s' := LS.mk 51 [(4, aB false)] []) mixed [qn0] ⟨[4], [], [], [], [], [], []⟩ aN (by kernel_rfl) ?_
        refine W_ret ?_
        exact kr [] _ _ (by kernel_rfl) (Option.some.inj h)
      · have hx6 := hb5
        have h := ib_f h hx6
        refine W_skip ?_
        refine W_seq ?_
        refine W_seq ?_
        refine W_y (s' := LS.mk 51 [(21, .ob 1021)] [(1021, some (.obj (.iter (mkS a0) 0)))]) mixed [qn0, qn (.newo (.iter (mkS a0) 0))] ⟨[21], [], [], [], [(21, 1021)], [], []⟩ (aC (show NewObj Try.prog (opAt (subC (bodyC Try.prog 35) [1, 1, 0, 0]) 1) [aS a0] (.iter (mkS a0) 0) from range_ob (by rfl) (by kernel_rfl) _) aN) (by kernel_rfl) ?_
        refine W_block ?_
        obtain ⟨n, h⟩ := fix_rec h
        exact W_conv (s' := LS.mk 51 [(21, .ob 1021)] [(1021, some (.obj (.iter (mkS a0) 0)))]) ⟨[21], [], [], [], [(1021, 1021)], [], []⟩ (by kernel_rfl) (tree_letters_l0_ok n a0 0 r_ _ kr (fun q1 hq1  s' h hf => W_pre hf (tree_letters_j1_ok q1 r_ _ kr h)) h)
def R_tree_Name_1 (a0 : Int) (r : Bool) : Prop := FnP Try.prog 36 [aI .u8 a0] (aB r)
noncomputable def tree_Name_1 (a0 : Int) : Option Bool :=
  (if a0 = 95 then (some true) else (if a0 ≥ 97 then (some (decide (a0 ≤ 122))) else (some false)))
set_option maxRecDepth 100000 in
theorem tree_Name_1_ok {a0 : Int} {r_ : Bool} (h : tree_Name_1 a0 = some r_) : R_tree_Name_1 a0 r_ := by
  unfold tree_Name_1 at h
  refine fn_pureX (fn := Try.f36) (by kernel_rfl) (c := subC (bodyC Try.prog 36) []) (by kernel_rfl) (by kernel_rfl) (Nat.le_of_ble_eq_true (by kernel_rfl)) ?_
  generalize hQ' : retQ Try.prog Try.f36 (aB r_) = Q'
  have kr : ∀ (ns : List (Nat × Nat × Nat)) (s : LS) (x : Bool), retX Try.prog ns [.tmp 2] s = some (aB x) → x = r_ → Q' .ret s.st := by subst hQ'; intro ns s x hx hq; subst hq; exact ret_ok (fn := Try.f36) ns hx
  change W Try.prog _ (LS.mk 13 [(0, aI .u8 a0)] []).st Q'
  refine W_seq ?_
  refine W_y (s' := LS.mk 13 [(0, aI .u8 a0)] []) mixed [qn0] ⟨[0], [], [], [], [], [], []⟩ aN (by kernel_rfl) ?_
  refine W_seq ?_
  refine (Bool.eq_false_or_eq_true (decide (a0 = 95))).elim (fun hb1 => ?_) (fun hb1 => ?_)
  · have hx2 := hb1
    have h := if_t h hx2
    refine W_y (s' := LS.mk 13 [(2, aB true)] []) mixed [qn0, qn0, qn0, qt0, qt0, qt0, qn0, qn0, qt0, qn (.dec true), qn0] ⟨[2], [], [], [], [], [], []⟩ (aC hx2 (aC hx2 (aC hx2 (aC hx2 (aC hx2 aN))))) (by kernel_rfl) ?_
    refine W_ret ?_
    exact kr [] _ _ (by kernel_rfl) (Option.some.inj h)
  · have hx2 := hb1
    have h := if_f h hx2
    refine (Bool.eq_false_or_eq_true (decide (a0 ≥ 97))).elim (fun hb3 => ?_) (fun hb3 => ?_)
    · have hx4 := hb3
      have h := if_t h hx4
      refine W_y (s' := LS.mk 13 [(2, aB (decide (a0 ≤ 122)))] []) mixed [qn0, qn0, qn0, qf0, qf0, qf0, qt0, qt0, qf (.dec true), qn (.dec false), qn0] ⟨[2], [], [], [], [], [], []⟩ (aC hx2 (aC hx2 (aC hx2 (aC hx4 (aC hx4 (aC hx2 (aC hx4 (aC hx2 aN)))))))) (by kernel_rfl) ?_
      refine W_ret ?_
      exact kr [] _ _ (by kernel_rfl) (Option.some.inj h)
    · have hx4 := hb3
      have h := if_f h hx4
      refine W_y (s' := LS.mk 13 [(2, aB false)] []) mixed [qn0, qn0, qn0, qf0, qf0, qf0, qf0, qf0, qf (.dec false), qn (.dec false), qn0] ⟨[2], [], [], [], [], [], []⟩ (aC hx2 (aC hx2 (aC hx2 (aC hx4 (aC hx4 (aC hx2 (aC hx4 (aC hx2 aN)))))))) (by kernel_rfl) ?_
      refine W_ret ?_
      exact kr [] _ _ (by kernel_rfl) (Option.some.inj h)
def R_tree_Name (a0 : (List UInt8)) (r : Bool) : Prop := FnP Try.prog 14 [aS a0] (aB r)
noncomputable def tree_Name (a0 : (List UInt8)) : Option Bool :=
  ((tree_letters a0 (Fv42.mk (.v (.func (.func 36) #[] #[])) (fun b0 => tree_Name_1 b0) (fun b0 br hb => fnc_fn (tree_Name_1_ok hb)))).bind fun (r1_1 : Bool) => (some r1_1))
set_option maxRecDepth 100000 in
theorem tree_Name_ok {a0 : (List UInt8)} {r_ : Bool} (h : tree_Name a0 = some r_) : R_tree_Name a0 r_ := by
  unfold tree_Name at h
  refine fn_pureX (fn := Try.f14) (by kernel_rfl) (c := subC (bodyC Try.prog 14) []) (by kernel_rfl) (by kernel_rfl) (Nat.le_of_ble_eq_true (by kernel_rfl)) ?_
  generalize hQ' : retQ Try.prog Try.f14 (aB r_) = Q'
  have kr : ∀ (ns : List (Nat × Nat × Nat)) (s : LS) (x : Bool), retX Try.prog ns [.tmp 2] s = some (aB x) → x = r_ → Q' .ret s.st := by subst hQ'; intro ns s x hx hq; subst hq; exact ret_ok (fn := Try.f14) ns hx
  change W Try.prog _ (LS.mk 5 [(0, aS a0)] []).st Q'
  refine W_seq ?_
  refine W_y (s' := LS.mk 5 [(0, aS a0)] []) mixed [qn0] ⟨[0], [], [], [], [], [], []⟩ aN (by kernel_rfl) ?_
  refine W_seq ?_
  obtain ⟨r1_1, hr1_1, h⟩ := bind_ok h
  have hr1_1 := tree_letters_ok hr1_1
  refine W_y (s' := LS.mk 5 [(2, aB r1_1)] []) mixed [qn0, qn (.call [] (aB r1_1)), qn0] ⟨[2], [], [], [], [], [], []⟩ (aC hr1_1 aN) (by kernel_rfl) ?_
  refine W_ret ?_
  exact kr [] _ _ (by kernel_rfl) (Option.some.inj h)
def R_tree_Great_1 (a0 : Int) (r : Bool) : Prop := FnP Try.prog 38 [aI .u8 a0] (aB r)
noncomputable def tree_Great_1 (a0 : Int) : Option Bool :=
  (if a0 ≥ 65 then (some (decide (a0 ≤ 90))) else (some false))
set_option maxRecDepth 100000 in
theorem tree_Great_1_ok {a0 : Int} {r_ : Bool} (h : tree_Great_1 a0 = some r_) : R_tree_Great_1 a0 r_ := by
  unfold tree_Great_1 at h
  refine fn_pureX (fn := Try.f38) (by kernel_rfl) (c := subC (bodyC Try.prog 38) []) (by kernel_rfl) (by kernel_rfl) (Nat.le_of_ble_eq_true (by kernel_rfl)) ?_
  generalize hQ' : retQ Try.prog Try.f38 (aB r_) = Q'
  have kr : ∀ (ns : List (Nat × Nat × Nat)) (s : LS) (x : Bool), retX Try.prog ns [.tmp 2] s = some (aB x) → x = r_ → Q' .ret s.st := by subst hQ'; intro ns s x hx hq; subst hq; exact ret_ok (fn := Try.f38) ns hx
  change W Try.prog _ (LS.mk 9 [(0, aI .u8 a0)] []).st Q'
  refine W_seq ?_
  refine W_y (s' := LS.mk 9 [(0, aI .u8 a0)] []) mixed [qn0] ⟨[0], [], [], [], [], [], []⟩ aN (by kernel_rfl) ?_
  refine W_seq ?_
  refine (Bool.eq_false_or_eq_true (decide (a0 ≥ 65))).elim (fun hb1 => ?_) (fun hb1 => ?_)
  · have hx2 := hb1
    have h := if_t h hx2
    refine W_y (s' := LS.mk 9 [(2, aB (decide (a0 ≤ 90)))] []) mixed [qn0, qn0, qn0, qt0, qt0, qn (.dec true), qn0] ⟨[2], [], [], [], [], [], []⟩ (aC hx2 (aC hx2 (aC hx2 aN))) (by kernel_rfl) ?_
    refine W_ret ?_
    exact kr [] _ _ (by kernel_rfl) (Option.some.inj h)
  · have hx2 := hb1
    have h := if_f h hx2
    refine W_y (s' := LS.mk 9 [(2, aB false)] []) mixed [qn0, qn0, qn0, qf0, qf0, qn (.dec false), qn0] ⟨[2], [], [], [], [], [], []⟩ (aC hx2 (aC hx2 (aC hx2 aN))) (by kernel_rfl) ?_
    refine W_ret ?_
    exact kr [] _ _ (by kernel_rfl) (Option.some.inj h)
def R_tree_Great (a0 : (List UInt8)) (r : Bool) : Prop := FnP Try.prog 16 [aS a0] (aB r)
noncomputable def tree_Great (a0 : (List UInt8)) : Option Bool :=
  ((tree_letters a0 (Fv42.mk (.v (.func (.func 38) #[] #[])) (fun b0 => tree_Great_1 b0) (fun b0 br hb => fnc_fn (tree_Great_1_ok hb)))).bind fun (r1_1 : Bool) => (some r1_1))
set_option maxRecDepth 100000 in
theorem tree_Great_ok {a0 : (List UInt8)} {r_ : Bool} (h : tree_Great a0 = some r_) : R_tree_Great a0 r_ := by
  unfold tree_Great at h
  refine fn_pureX (fn := Try.f16) (by kernel_rfl) (c := subC (bodyC Try.prog 16) []) (by kernel_rfl) (by kernel_rfl) (Nat.le_of_ble_eq_true (by kernel_rfl)) ?_
  generalize hQ' : retQ Try.prog Try.f16 (aB r_) = Q'
  have kr : ∀ (ns : List (Nat × Nat × Nat)) (s : LS) (x : Bool), retX Try.prog ns [.tmp 2] s = some (aB x) → x = r_ → Q' .ret s.st := by subst hQ'; intro ns s x hx hq; subst hq; exact ret_ok (fn := Try.f16) ns hx
  change W Try.prog _ (LS.mk 5 [(0, aS a0)] []).st Q'
  refine W_seq ?_
  refine W_y (s' := LS.mk 5 [(0, aS a0)] []) mixed [qn0] ⟨[0], [], [], [], [], [], []⟩ aN (by kernel_rfl) ?_
  refine W_seq ?_
  obtain ⟨r1_1, hr1_1, h⟩ := bind_ok h
  have hr1_1 := tree_letters_ok hr1_1
  refine W_y (s' := LS.mk 5 [(2, aB r1_1)] []) mixed [qn0, qn (.call [] (aB r1_1)), qn0] ⟨[2], [], [], [], [], [], []⟩ (aC hr1_1 aN) (by kernel_rfl) ?_
  refine W_ret ?_
  exact kr [] _ _ (by kernel_rfl) (Option.some.inj h)
def R_tree_fields (a0 : GApiNode) (r : Bool) : Prop := FnP Try.prog 28 [e_GApiNode a0] (aB r)
noncomputable def tree_fields_j0 (a0 : GApiNode) : Option Bool :=
  ((tree_Great a0.Text).bind fun (r5_2 : Bool) => (if r5_2 = true then (some (decide (a0.Num = 0))) else (some false)))
noncomputable def tree_fields_j1 (a0 : GApiNode) : Option Bool :=
  ((tree_Name a0.Text).bind fun (r12_2 : Bool) => (if r12_2 = true then (some (decide (a0.Num = 0))) else (some false)))
set_option maxRecDepth 100000 in
theorem tree_fields_j0_ok (a0 : GApiNode) (r_ : Bool) (Q' : Exit → St → Prop) (kr : ∀ (ns : List (Nat × Nat × Nat)) (s : LS) (x : Bool), retX Try.prog ns [.tmp 2] s = some (aB x) → x = r_ → Q' .ret s.st)  (h : tree_fields_j0 a0 = some r_) : W Try.prog (subC (bodyC Try.prog 28) [1, 1, 0, 1, 0, 1, 0]) (LS.mk 122 [(1, .ptr 1 0), (4, aB (decide (a0.Num = 0)))] [(1, some (.box 32 [aI .u8 a0.Kind, aI .i64 a0.Line, aI .i64 a0.Col, aI .i64 a0.Size, aI .i64 a0.Num, aS a0.Text]))]).st Q' := by
  unfold tree_fields_j0 at h
  refine W_seq ?_
  obtain ⟨r5_2, hr5_2, h⟩ := bind_ok h
  have hr5_2 := tree_Great_ok hr5_2
  refine (Bool.eq_false_or_eq_true r5_2).elim (fun hb1001 => ?_) (fun hb1001 => ?_)
  · have hx1002 := hb1001
    have h := ib_t h hx1002
    refine W_y (s' := LS.mk 122 [(2, aB (decide (a0.Num = 0)))] []) mixed [qn0, qn0, qn (.call [] (aB r5_2)), qn0, qt0, qn (.dec true), qn0] ⟨[2], [], [], [], [], [], []⟩ (aC hr5_2 (aC hx1002 (aC hx1002 aN))) (by kernel_rfl) ?_
    refine W_ret ?_
    exact kr [] _ _ (by kernel_rfl) (Option.some.inj h)
  · have hx1002 := hb1001
    have h := ib_f h hx1002
    refine W_y (s' := LS.mk 122 [(2, aB false)] []) mixed [qn0, qn0, qn (.call [] (aB r5_2)), qn0, qf0, qn (.dec false), qn0] ⟨[2], [], [], [], [], [], []⟩ (aC hr5_2 (aC hx1002 (aC hx1002 aN))) (by kernel_rfl) ?_
    refine W_ret ?_
    exact kr [] _ _ (by kernel_rfl) (Option.some.inj h)
set_option maxRecDepth 100000 in
theorem tree_fields_j1_ok (a0 : GApiNode) (r_ : Bool) (Q' : Exit → St → Prop) (kr : ∀ (ns : List (Nat × Nat × Nat)) (s : LS) (x : Bool), retX Try.prog ns [.tmp 2] s = some (aB x) → x = r_ → Q' .ret s.st)  (h : tree_fields_j1 a0 = some r_) : W Try.prog (subC (bodyC Try.prog 28) [1, 1, 0, 1, 0, 1, 1, 1, 0]) (LS.mk 122 [(1, .ptr 1 0), (4, aB (decide (a0.Num = 0)))] [(1, some (.box 32 [aI .u8 a0.Kind, aI .i64 a0.Line, aI .i64 a0.Col, aI .i64 a0.Size, aI .i64 a0.Num, aS a0.Text]))]).st Q' := by
  unfold tree_fields_j1 at h
  refine W_seq ?_
  obtain ⟨r12_2, hr12_2, h⟩ := bind_ok h
  have hr12_2 := tree_Name_ok hr12_2
  refine (Bool.eq_false_or_eq_true r12_2).elim (fun hb2001 => ?_) (fun hb2001 => ?_)
  · have hx2002 := hb2001
    have h := ib_t h hx2002
    refine W_y (s' := LS.mk 122 [(2, aB (decide (a0.Num = 0)))] []) mixed [qn0, qn0, qn (.call [] (aB r12_2)), qn0, qt0, qn (.dec true), qn0] ⟨[2], [], [], [], [], [], []⟩ (aC hr12_2 (aC hx2002 (aC hx2002 aN))) (by kernel_rfl) ?_
    refine W_ret ?_
    exact kr [] _ _ (by kernel_rfl) (Option.some.inj h)
  · have hx2002 := hb2001
    have h := ib_f h hx2002
    refine W_y (s' := LS.mk 122 [(2, aB false)] []) mixed [qn0, qn0, qn (.call [] (aB r12_2)), qn0, qf0, qn (.dec false), qn0] ⟨[2], [], [], [], [], [], []⟩ (aC hr12_2 (aC hx2002 (aC hx2002 aN))) (by kernel_rfl) ?_
    refine W_ret ?_
    exact kr [] _ _ (by kernel_rfl) (Option.some.inj h)
noncomputable def tree_fields (a0 : GApiNode) : Option Bool :=
  (if a0.Kind = 2 then tree_fields_j0 a0 else (if a0.Kind = 19 then tree_fields_j0 a0 else (if a0.Kind = 3 then tree_fields_j1 a0 else (if a0.Kind = 5 then tree_fields_j1 a0 else (if a0.Kind = 7 then tree_fields_j1 a0 else (if a0.Kind = 26 then tree_fields_j1 a0 else (if a0.Kind = 27 then tree_fields_j1 a0 else (if a0.Kind = 29 then tree_fields_j1 a0 else (if a0.Kind = 4 then ((tree_Name a0.Text).bind fun (r14_2 : Bool) => (if r14_2 = true then (some (decide (a0.Num ≥ 0))) else (some false))) else (if a0.Kind = 21 then (if a0.Text = ([] : List UInt8) then (some (decide (a0.Num ≥ 0))) else (some false)) else (if a0.Kind = 22 then (if a0.Text = ([] : List UInt8) then (if a0.Num ≥ 0 then (some (decide (a0.Num < 8388608))) else (some false)) else (some false)) else (if a0.Kind = 23 then (some (decide (a0.Num = 0))) else (if a0.Kind = 24 then (if a0.Text = ([] : List UInt8) then (if a0.Num = 0 then (some true) else (some (decide (a0.Num = 1)))) else (some false)) else (if a0.Kind = 30 then (if a0.Text = ([] : List UInt8) then (if a0.Num = 12 then (some true) else (some (decide (a0.Num = 13)))) else (some false)) else (if a0.Kind = 31 then (if a0.Text = ([] : List UInt8) then (if a0.Num ≥ 1 then (if a0.Num ≤ 11 then (some true) else (if a0.Num = 14 then (some true) else (some (decide (a0.Num = 15))))) else (if a0.Num = 14 then (some true) else (some (decide (a0.Num = 15))))) else (some false)) else (if a0.Text = ([] : List UInt8) then (some (decide (a0.Num = 0))) else (some false)))))))))))))))))
set_option maxRecDepth 100000 in
theorem tree_fields_ok {a0 : GApiNode} {r_ : Bool} (h : tree_fields a0 = some r_) : R_tree_fields a0 r_ := by
  unfold tree_fields at h
  refine fn_pureX (fn := Try.f28) (by kernel_rfl) (c := subC (bodyC Try.prog 28) []) (by kernel_rfl) (by kernel_rfl) (Nat.le_of_ble_eq_true (by kernel_rfl)) ?_
  generalize hQ' : retQ Try.prog Try.f28 (aB r_) = Q'
  have kr : ∀ (ns : List (Nat × Nat × Nat)) (s : LS) (x : Bool), retX Try.prog ns [.tmp 2] s = some (aB x) → x = r_ → Q' .ret s.st := by subst hQ'; intro ns s x hx hq; subst hq; exact ret_ok (fn := Try.f28) ns hx
  change W Try.prog _ (LS.mk 122 [(0, e_GApiNode a0)] []).st Q'
  refine W_seq ?_
  refine W_y (s' := LS.mk 122 [(1, .ptr 1 0)] [(1, some (.box 32 [aI .u8 a0.Kind, aI .i64 a0.Line, aI .i64 a0.Col, aI .i64 a0.Size, aI .i64 a0.Num, aS a0.Text]))]) mixed [qn0, qn0] ⟨[1], [], [1], [], [], [], []⟩ aN (by kernel_rfl) ?_
  refine W_seq ?_
  refine W_y (s' := LS.mk 122 [(1, .ptr 1 0), (3, aB (decide (a0.Text = ([] : List UInt8)))), (4, aB (decide (a0.Num = 0)))] [(1, some (.box 32 [aI .u8 a0.Kind, aI .i64 a0.Line, aI .i64 a0.Col, aI .i64 a0.Size, aI .i64 a0.Num, aS a0.Text]))]) mixed [qn0, qn0, qn (.val (.bool (decide (a0.Text = ([] : List UInt8))))), qn0, qn0, qn0, qn0, qn0] ⟨[1, 3, 4], [], [1], [], [], [], []⟩ (aC (str_eq_ob (P := Try.prog) 9 a0.Text ([] : List UInt8)) aN) (by kernel_rfl) ?_
  refine W_seq ?_
  refine W_seq ?_
  refine W_y (s' := LS.mk 122 [(1, .ptr 1 0), (3, aB (decide (a0.Text = ([] : List UInt8)))), (4, aB (decide (a0.Num = 0))), (12, aI .u8 a0.Kind)] [(1, some (.box 32 [aI .u8 a0.Kind, aI .i64 a0.Line, aI .i64 a0.Col, aI .i64 a0.Size, aI .i64 a0.Num, aS a0.Text]))]) mixed [qn0, qn0] ⟨[1, 3, 4, 12], [], [1], [], [], [], []⟩ aN (by kernel_rfl) ?_
  refine W_block ?_
  refine W_seq ?_
  refine W_seq ?_
  refine W_y (s' := LS.mk 122 [(1, .ptr 1 0), (3, aB (decide (a0.Text = ([] : List UInt8)))), (4, aB (decide (a0.Num = 0))), (12, aI .u8 a0.Kind), (13, aB (decide (a0.Kind = 2)))] [(1, some (.box 32 [aI .u8 a0.Kind, aI .i64 a0.Line, aI .i64 a0.Col, aI .i64 a0.Size, aI .i64 a0.Num, aS a0.Text]))]) mixed [qn0, qn0] ⟨[1, 3, 4, 12, 13], [], [1], [], [], [], []⟩ aN (by kernel_rfl) ?_
  refine W_cond (decide (a0.Kind = 2)) (by kernel_rfl) (fun hb1 => ?_) (fun hb1 => ?_)
  · have hx2 := hb1
    have h := if_t h hx2
    refine W_skip ?_
    refine W_cond (decide (a0.Kind = 2)) (by kernel_rfl) (fun _ => ?_) (fun hb => nomatch ((hx2 : (decide (a0.Kind = 2)) = true).symm.trans hb))
    exact W_conv (s' := LS.mk 122 [(1, .ptr 1 0), (4, aB (decide (a0.Num = 0)))] [(1, some (.box 32 [aI .u8 a0.Kind, aI .i64 a0.Line, aI .i64 a0.Col, aI .i64 a0.Size, aI .i64 a0.Num, aS a0.Text]))]) ⟨[1, 4], [], [1], [], [], [], []⟩ (by kernel_rfl) (tree_fields_j0_ok a0 r_ _ kr h)
  · have hx2 := hb1
    have h := if_f h hx2
    refine W_y (s' := LS.mk 122 [(1, .ptr 1 0), (3, aB (decide (a0.Text = ([] : List UInt8)))), (4, aB (decide (a0.Num = 0))), (12, aI .u8 a0.Kind), (13, aB (decide (a0.Kind = 19)))] [(1, some (.box 32 [aI .u8 a0.Kind, aI .i64 a0.Line, aI .i64 a0.Col, aI .i64 a0.Size, aI .i64 a0.Num, aS a0.Text]))]) mixed [qn0, qn0] ⟨[1, 3, 4, 12, 13], [], [1], [], [], [], []⟩ aN (by kernel_rfl) ?_
    refine W_cond (decide (a0.Kind = 19)) (by kernel_rfl) (fun hb3 => ?_) (fun hb3 => ?_)
    · have hx4 := hb3
      have h := if_t h hx4
      exact W_conv (s' := LS.mk 122 [(1, .ptr 1 0), (4, aB (decide (a0.Num = 0)))] [(1, some (.box 32 [aI .u8 a0.Kind, aI .i64 a0.Line, aI .i64 a0.Col, aI .i64 a0.Size, aI .i64 a0.Num, aS a0.Text]))]) ⟨[1, 4], [], [1], [], [], [], []⟩ (by kernel_rfl) (tree_fields_j0_ok a0 r_ _ kr h)
    · have hx4 := hb3
      have h := if_f h hx4
      refine W_seq ?_
      refine W_seq ?_
      refine W_y (s' := LS.mk 122 [(1, .ptr 1 0), (3, aB (decide (a0.Text = ([] : List UInt8)))), (4, aB (decide (a0.Num = 0))), (12, aI .u8 a0.Kind), (22, aB (decide (a0.Kind = 3)))] [(1, some (.box 32 [aI .u8 a0.Kind, aI .i64 a0.Line, aI .i64 a0.Col, aI .i64 a0.Size, aI .i64 a0.Num, aS a0.Text]))]) mixed [qn0, qn0] ⟨[1, 3, 4, 12, 22], [], [1], [], [], [], []⟩ aN (by kernel_rfl) ?_
      refine W_cond (decide (a0.Kind = 3)) (by kernel_rfl) (fun hb5 => ?_) (fun hb5 => ?_)
      · have hx6 := hb5
        have h := if_t h hx6
        refine W_skip ?_
        refine W_cond (decide (a0.Kind = 3)) (by kernel_rfl) (fun _ => ?_) (fun hb => nomatch ((hx6 : (decide (a0.Kind = 3)) = true).symm.trans hb))
        exact W_conv (s' := LS.mk 122 [(1, .ptr 1 0), (4, aB (decide (a0.Num = 0)))] [(1, some (.box 32 [aI .u8 a0.Kind, aI .i64 a0.Line, aI .i64 a0.Col, aI .i64 a0.Size, aI .i64 a0.Num, aS a0.Text]))]) ⟨[1, 4], [], [1], [], [], [], []⟩ (by kernel_rfl) (tree_fields_j1_ok a0 r_ _ kr h)
      · have hx6 := hb5
        have h := if_f h hx6
        refine W_seq ?_
        refine W_y (s' := LS.mk 122 [(1, .ptr 1 0), (3, aB (decide (a0.Text = ([] : List UInt8)))), (4, aB (decide (a0.Num = 0))), (12, aI .u8 a0.Kind), (22, aB (decide (a0.Kind = 5)))] [(1, some (.box 32 [aI .u8 a0.Kind, aI .i64 a0.Line, aI .i64 a0.Col, aI .i64 a0.Size, aI .i64 a0.Num, aS a0.Text]))]) mixed [qn0, qn0] ⟨[1, 3, 4, 12, 22], [], [1], [], [], [], []⟩ aN (by kernel_rfl) ?_
        refine W_cond (decide (a0.Kind = 5)) (by kernel_rfl) (fun hb7 => ?_) (fun hb7 => ?_)
        · have hx8 := hb7
          have h := if_t h hx8
          refine W_skip ?_
          refine W_cond (decide (a0.Kind = 5)) (by kernel_rfl) (fun _ => ?_) (fun hb => nomatch ((hx8 : (decide (a0.Kind = 5)) = true).symm.trans hb))
          exact W_conv (s' := LS.mk 122 [(1, .ptr 1 0), (4, aB (decide (a0.Num = 0)))] [(1, some (.box 32 [aI .u8 a0.Kind, aI .i64 a0.Line, aI .i64 a0.Col, aI .i64 a0.Size, aI .i64 a0.Num, aS a0.Text]))]) ⟨[1, 4], [], [1], [], [], [], []⟩ (by kernel_rfl) (tree_fields_j1_ok a0 r_ _ kr h)
        · have hx8 := hb7
          have h := if_f h hx8
          refine W_seq ?_
          refine W_y (s' := LS.mk 122 [(1, .ptr 1 0), (3, aB (decide (a0.Text = ([] : List UInt8)))), (4, aB (decide (a0.Num = 0))), (12, aI .u8 a0.Kind), (22, aB (decide (a0.Kind = 7)))] [(1, some (.box 32 [aI .u8 a0.Kind, aI .i64 a0.Line, aI .i64 a0.Col, aI .i64 a0.Size, aI .i64 a0.Num, aS a0.Text]))]) mixed [qn0, qn0] ⟨[1, 3, 4, 12, 22], [], [1], [], [], [], []⟩ aN (by kernel_rfl) ?_
          refine W_cond (decide (a0.Kind = 7)) (by kernel_rfl) (fun hb9 => ?_) (fun hb9 => ?_)
          · have hx10 := hb9
            have h := if_t h hx10
            refine W_skip ?_
            refine W_cond (decide (a0.Kind = 7)) (by kernel_rfl) (fun _ => ?_) (fun hb => nomatch ((hx10 : (decide (a0.Kind = 7)) = true).symm.trans hb))
            exact W_conv (s' := LS.mk 122 [(1, .ptr 1 0), (4, aB (decide (a0.Num = 0)))] [(1, some (.box 32 [aI .u8 a0.Kind, aI .i64 a0.Line, aI .i64 a0.Col, aI .i64 a0.Size, aI .i64 a0.Num, aS a0.Text]))]) ⟨[1, 4], [], [1], [], [], [], []⟩ (by kernel_rfl) (tree_fields_j1_ok a0 r_ _ kr h)
          · have hx10 := hb9
            have h := if_f h hx10
            refine W_seq ?_
            refine W_y (s' := LS.mk 122 [(1, .ptr 1 0), (3, aB (decide (a0.Text = ([] : List UInt8)))), (4, aB (decide (a0.Num = 0))), (12, aI .u8 a0.Kind), (22, aB (decide (a0.Kind = 26)))] [(1, some (.box 32 [aI .u8 a0.Kind, aI .i64 a0.Line, aI .i64 a0.Col, aI .i64 a0.Size, aI .i64 a0.Num, aS a0.Text]))]) mixed [qn0, qn0] ⟨[1, 3, 4, 12, 22], [], [1], [], [], [], []⟩ aN (by kernel_rfl) ?_
            refine W_cond (decide (a0.Kind = 26)) (by kernel_rfl) (fun hb11 => ?_) (fun hb11 => ?_)
            · have hx12 := hb11
              have h := if_t h hx12
              refine W_skip ?_
              refine W_cond (decide (a0.Kind = 26)) (by kernel_rfl) (fun _ => ?_) (fun hb => nomatch ((hx12 : (decide (a0.Kind = 26)) = true).symm.trans hb))
              exact W_conv (s' := LS.mk 122 [(1, .ptr 1 0), (4, aB (decide (a0.Num = 0)))] [(1, some (.box 32 [aI .u8 a0.Kind, aI .i64 a0.Line, aI .i64 a0.Col, aI .i64 a0.Size, aI .i64 a0.Num, aS a0.Text]))]) ⟨[1, 4], [], [1], [], [], [], []⟩ (by kernel_rfl) (tree_fields_j1_ok a0 r_ _ kr h)
            · have hx12 := hb11
              have h := if_f h hx12
              refine W_seq ?_
              refine W_y (s' := LS.mk 122 [(1, .ptr 1 0), (3, aB (decide (a0.Text = ([] : List UInt8)))), (4, aB (decide (a0.Num = 0))), (12, aI .u8 a0.Kind), (22, aB (decide (a0.Kind = 27)))] [(1, some (.box 32 [aI .u8 a0.Kind, aI .i64 a0.Line, aI .i64 a0.Col, aI .i64 a0.Size, aI .i64 a0.Num, aS a0.Text]))]) mixed [qn0, qn0] ⟨[1, 3, 4, 12, 22], [], [1], [], [], [], []⟩ aN (by kernel_rfl) ?_
              refine W_cond (decide (a0.Kind = 27)) (by kernel_rfl) (fun hb13 => ?_) (fun hb13 => ?_)
              · have hx14 := hb13
                have h := if_t h hx14
                refine W_skip ?_
                refine W_cond (decide (a0.Kind = 27)) (by kernel_rfl) (fun _ => ?_) (fun hb => nomatch ((hx14 : (decide (a0.Kind = 27)) = true).symm.trans hb))
                exact W_conv (s' := LS.mk 122 [(1, .ptr 1 0), (4, aB (decide (a0.Num = 0)))] [(1, some (.box 32 [aI .u8 a0.Kind, aI .i64 a0.Line, aI .i64 a0.Col, aI .i64 a0.Size, aI .i64 a0.Num, aS a0.Text]))]) ⟨[1, 4], [], [1], [], [], [], []⟩ (by kernel_rfl) (tree_fields_j1_ok a0 r_ _ kr h)
              · have hx14 := hb13
                have h := if_f h hx14
                refine W_y (s' := LS.mk 122 [(1, .ptr 1 0), (3, aB (decide (a0.Text = ([] : List UInt8)))), (4, aB (decide (a0.Num = 0))), (12, aI .u8 a0.Kind), (22, aB (decide (a0.Kind = 29)))] [(1, some (.box 32 [aI .u8 a0.Kind, aI .i64 a0.Line, aI .i64 a0.Col, aI .i64 a0.Size, aI .i64 a0.Num, aS a0.Text]))]) mixed [qn0, qn0] ⟨[1, 3, 4, 12, 22], [], [1], [], [], [], []⟩ aN (by kernel_rfl) ?_
                refine W_cond (decide (a0.Kind = 29)) (by kernel_rfl) (fun hb15 => ?_) (fun hb15 => ?_)
                · have hx16 := hb15
                  have h := if_t h hx16
                  exact W_conv (s' := LS.mk 122 [(1, .ptr 1 0), (4, aB (decide (a0.Num = 0)))] [(1, some (.box 32 [aI .u8 a0.Kind, aI .i64 a0.Line, aI .i64 a0.Col, aI .i64 a0.Size, aI .i64 a0.Num, aS a0.Text]))]) ⟨[1, 4], [], [1], [], [], [], []⟩ (by kernel_rfl) (tree_fields_j1_ok a0 r_ _ kr h)
                · have hx16 := hb15
                  have h := if_f h hx16
                  refine W_seq ?_
                  refine W_y (s' := LS.mk 122 [(1, .ptr 1 0), (3, aB (decide (a0.Text = ([] : List UInt8)))), (4, aB (decide (a0.Num = 0))), (12, aI .u8 a0.Kind), (35, aB (decide (a0.Kind = 4)))] [(1, some (.box 32 [aI .u8 a0.Kind, aI .i64 a0.Line, aI .i64 a0.Col, aI .i64 a0.Size, aI .i64 a0.Num, aS a0.Text]))]) mixed [qn0, qn0] ⟨[1, 3, 4, 12, 35], [], [1], [], [], [], []⟩ aN (by kernel_rfl) ?_
                  refine W_cond (decide (a0.Kind = 4)) (by kernel_rfl) (fun hb17 => ?_) (fun hb17 => ?_)
                  · have hx18 := hb17
                    have h := if_t h hx18
                    refine W_seq ?_
                    obtain ⟨r14_2, hr14_2, h⟩ := bind_ok h
                    have hr14_2 := tree_Name_ok hr14_2
                    refine (Bool.eq_false_or_eq_true r14_2).elim (fun hb19 => ?_) (fun hb19 => ?_)
                    · have hx20 := hb19
                      have h := ib_t h hx20
                      refine W_y (s' := LS.mk 122 [(2, aB (decide (a0.Num ≥ 0)))] []) mixed [qn0, qn0, qn (.call [] (aB r14_2)), qn0, qt0, qt0, qt0, qn (.dec true), qn0] ⟨[2], [], [], [], [], [], []⟩ (aC hr14_2 (aC hx20 (aC hx20 (aC hx20 (aC hx20 aN))))) (by kernel_rfl) ?_
                      refine W_ret ?_
                      exact kr [] _ _ (by kernel_rfl) (Option.some.inj h)
                    · have hx20 := hb19
                      have h := ib_f h hx20
                      refine W_y (s' := LS.mk 122 [(2, aB false)] []) mixed [qn0, qn0, qn (.call [] (aB r14_2)), qn0, qf0, qf0, qf0, qn (.dec false), qn0] ⟨[2], [], [], [], [], [], []⟩ (aC hr14_2 (aC hx20 (aC hx20 (aC hx20 (aC hx20 aN))))) (by kernel_rfl) ?_
                      refine W_ret ?_
                      exact kr [] _ _ (by kernel_rfl) (Option.some.inj h)
                  · have hx18 := hb17
                    have h := if_f h hx18
                    refine W_seq ?_
                    refine W_y (s' := LS.mk 122 [(1, .ptr 1 0), (3, aB (decide (a0.Text = ([] : List UInt8)))), (4, aB (decide (a0.Num = 0))), (12, aI .u8 a0.Kind), (45, aB (decide (a0.Kind = 21)))] [(1, some (.box 32 [aI .u8 a0.Kind, aI .i64 a0.Line, aI .i64 a0.Col, aI .i64 a0.Size, aI .i64 a0.Num, aS a0.Text]))]) mixed [qn0, qn0] ⟨[1, 3, 4, 12, 45], [], [1], [], [], [], []⟩ aN (by kernel_rfl) ?_
                    refine W_cond (decide (a0.Kind = 21)) (by kernel_rfl) (fun hb21 => ?_) (fun hb21 => ?_)
                    · have hx22 := hb21
                      have h := if_t h hx22
                      refine W_seq ?_
                      refine (Bool.eq_false_or_eq_true (decide (a0.Text = ([] : List UInt8)))).elim (fun hb23 => ?_) (fun hb23 => ?_)
                      · have hx24 := hb23
                        have h := if_t h hx24
                        refine W_y (s' := LS.mk 122 [(2, aB (decide (a0.Num ≥ 0)))] []) mixed [qn0, qn0, qt0, qt0, qt0, qn (.dec true), qn0] ⟨[2], [], [], [], [], [], []⟩ (aC hx24 (aC hx24 (aC hx24 (aC hx24 aN)))) (by kernel_rfl) ?_
                        refine W_ret ?_
                        exact kr [] _ _ (by kernel_rfl) (Option.some.inj h)
                      · have hx24 := hb23
                        have h := if_f h hx24
                        refine W_y (s' := LS.mk 122 [(2, aB false)] []) mixed [qn0, qn0, qf0, qf0, qf0, qn (.dec false), qn0] ⟨[2], [], [], [], [], [], []⟩ (aC hx24 (aC hx24 (aC hx24 (aC hx24 aN)))) (by kernel_rfl) ?_
                        refine W_ret ?_
                        exact kr [] _ _ (by kernel_rfl) (Option.some.inj h)
                    · have hx22 := hb21
                      have h := if_f h hx22
                      refine W_seq ?_
                      refine W_y (s' := LS.mk 122 [(1, .ptr 1 0), (3, aB (decide (a0.Text = ([] : List UInt8)))), (4, aB (decide (a0.Num = 0))), (12, aI .u8 a0.Kind), (53, aB (decide (a0.Kind = 22)))] [(1, some (.box 32 [aI .u8 a0.Kind, aI .i64 a0.Line, aI .i64 a0.Col, aI .i64 a0.Size, aI .i64 a0.Num, aS a0.Text]))]) mixed [qn0, qn0] ⟨[1, 3, 4, 12, 53], [], [1], [], [], [], []⟩ aN (by kernel_rfl) ?_
                      refine W_cond (decide (a0.Kind = 22)) (by kernel_rfl) (fun hb25 => ?_) (fun hb25 => ?_)
                      · have hx26 := hb25
                        have h := if_t h hx26
                        refine W_seq ?_
                        refine (Bool.eq_false_or_eq_true (decide (a0.Text = ([] : List UInt8)))).elim (fun hb27 => ?_) (fun hb27 => ?_)
                        · have hx28 := hb27
                          have h := if_t h hx28
                          refine (Bool.eq_false_or_eq_true (decide (a0.Num ≥ 0))).elim (fun hb29 => ?_) (fun hb29 => ?_)
                          · have hx30 := hb29
                            have h := if_t h hx30
                            refine W_y (s' := LS.mk 122 [(2, aB (decide (a0.Num < 8388608)))] []) mixed [qn0, qn0, qt0, qt0, qt0, qn (.dec true), qn0, qt0, qt0, qt0, qn (.dec true), qn0] ⟨[2], [], [], [], [], [], []⟩ (aC hx28 (aC hx28 (aC hx28 (aC hx28 (aC hx30 (aC hx30 (aC hx30 (aC hx30 aN)))))))) (by kernel_rfl) ?_
                            refine W_ret ?_
                            exact kr [] _ _ (by kernel_rfl) (Option.some.inj h)
                          · have hx30 := hb29
                            have h := if_f h hx30
                            refine W_y (s' := LS.mk 122 [(2, aB false)] []) mixed [qn0, qn0, qt0, qt0, qt0, qn (.dec true), qn0, qf0, qf0, qf0, qn (.dec false), qn0] ⟨[2], [], [], [], [], [], []⟩ (aC hx28 (aC hx28 (aC hx28 (aC hx28 (aC hx30 (aC hx30 (aC hx30 (aC hx30 aN)))))))) (by kernel_rfl) ?_
                            refine W_ret ?_
                            exact kr [] _ _ (by kernel_rfl) (Option.some.inj h)
                        · have hx28 := hb27
                          have h := if_f h hx28
                          refine W_y (s' := LS.mk 122 [(2, aB false)] []) mixed [qn0, qn0, qf0, qf0, qf0, qn (.dec false), qn0, qn0, qn0, qn0, qn0, qn0] ⟨[2], [], [], [], [], [], []⟩ (aC hx28 (aC hx28 (aC hx28 (aC hx28 aN)))) (by kernel_rfl) ?_
                          refine W_ret ?_
                          exact kr [] _ _ (by kernel_rfl) (Option.some.inj h)
                      · have hx26 := hb25
                        have h := if_f h hx26
                        refine W_seq ?_
                        refine W_y (s' := LS.mk 122 [(1, .ptr 1 0), (3, aB (decide (a0.Text = ([] : List UInt8)))), (4, aB (decide (a0.Num = 0))), (12, aI .u8 a0.Kind), (66, aB (decide (a0.Kind = 23)))] [(1, some (.box 32 [aI .u8 a0.Kind, aI .i64 a0.Line, aI .i64 a0.Col, aI .i64 a0.Size, aI .i64 a0.Num, aS a0.Text]))]) mixed [qn0, qn0] ⟨[1, 3, 4, 12, 66], [], [1], [], [], [], []⟩ aN (by kernel_rfl) ?_
                        refine W_cond (decide (a0.Kind = 23)) (by kernel_rfl) (fun hb31 => ?_) (fun hb31 => ?_)
                        · have hx32 := hb31
                          have h := if_t h hx32
                          refine W_seq ?_
                          refine W_y (s' := LS.mk 122 [(2, aB (decide (a0.Num = 0)))] []) mixed [qn0, qn0] ⟨[2], [], [], [], [], [], []⟩ aN (by kernel_rfl) ?_
                          refine W_ret ?_
                          exact kr [] _ _ (by kernel_rfl) (Option.some.inj h)
                        · have hx32 := hb31
                          have h := if_f h hx32
                          refine W_seq ?_
                          refine W_y (s' := LS.mk 122 [(1, .ptr 1 0), (3, aB (decide (a0.Text = ([] : List UInt8)))), (4, aB (decide (a0.Num = 0))), (12, aI .u8 a0.Kind), (69, aB (decide (a0.Kind = 24)))] [(1, some (.box 32 [aI .u8 a0.Kind, aI .i64 a0.Line, aI .i64 a0.Col, aI .i64 a0.Size, aI .i64 a0.Num, aS a0.Text]))]) mixed [qn0, qn0] ⟨[1, 3, 4, 12, 69], [], [1], [], [], [], []⟩ aN (by kernel_rfl) ?_
                          refine W_cond (decide (a0.Kind = 24)) (by kernel_rfl) (fun hb33 => ?_) (fun hb33 => ?_)
                          · have hx34 := hb33
                            have h := if_t h hx34
                            refine W_seq ?_
                            refine (Bool.eq_false_or_eq_true (decide (a0.Text = ([] : List UInt8)))).elim (fun hb35 => ?_) (fun hb35 => ?_)
                            · have hx36 := hb35
                              have h := if_t h hx36
                              refine (Bool.eq_false_or_eq_true (decide (a0.Num = 0))).elim (fun hb37 => ?_) (fun hb37 => ?_)
                              · have hx38 := hb37
                                have h := if_t h hx38
                                refine W_y (s' := LS.mk 122 [(2, aB true)] []) mixed [qn0, qn0, qt0, qt0, qt0, qt0, qt0, qt0, qt0, qt (.dec true), qn (.dec true), qn0] ⟨[2], [], [], [], [], [], []⟩ (aC hx36 (aC hx36 (aC hx36 (aC hx36 (aC hx38 (aC hx38 (aC hx38 (aC hx36 (aC hx38 (aC hx36 aN)))))))))) (by kernel_rfl) ?_
                                refine W_ret ?_
                                exact kr [] _ _ (by kernel_rfl) (Option.some.inj h)
                              · have hx38 := hb37
                                have h := if_f h hx38
                                refine W_y (s' := LS.mk 122 [(2, aB (decide (a0.Num = 1)))] []) mixed [qn0, qn0, qt0, qt0, qt0, qt0, qf0, qf0, qf0, qt (.dec false), qn (.dec true), qn0] ⟨[2], [], [], [], [], [], []⟩ (aC hx36 (aC hx36 (aC hx36 (aC hx36 (aC hx38 (aC hx38 (aC hx38 (aC hx36 (aC hx38 (aC hx36 aN)))))))))) (by kernel_rfl) ?_
                                refine W_ret ?_
                                exact kr [] _ _ (by kernel_rfl) (Option.some.inj h)
                            · have hx36 := hb35
                              have h := if_f h hx36
                              refine W_y (s' := LS.mk 122 [(2, aB false)] []) mixed [qn0, qn0, qf0, qf0, qf0, qf0, qn0, qn0, qn0, qf0, qn (.dec false), qn0] ⟨[2], [], [], [], [], [], []⟩ (aC hx36 (aC hx36 (aC hx36 (aC hx36 (aC hx36 (aC hx36 aN)))))) (by kernel_rfl) ?_
                              refine W_ret ?_
                              exact kr [] _ _ (by kernel_rfl) (Option.some.inj h)
                          · have hx34 := hb33
                            have h := if_f h hx34
                            refine W_seq ?_
                            refine W_y (s' := LS.mk 122 [(1, .ptr 1 0), (3, aB (decide (a0.Text = ([] : List UInt8)))), (4, aB (decide (a0.Num = 0))), (12, aI .u8 a0.Kind), (82, aB (decide (a0.Kind = 30)))] [(1, some (.box 32 [aI .u8 a0.Kind, aI .i64 a0.Line, aI .i64 a0.Col, aI .i64 a0.Size, aI .i64 a0.Num, aS a0.Text]))]) mixed [qn0, qn0] ⟨[1, 3, 4, 12, 82], [], [1], [], [], [], []⟩ aN (by kernel_rfl) ?_
                            refine W_cond (decide (a0.Kind = 30)) (by kernel_rfl) (fun hb39 => ?_) (fun hb39 => ?_)
                            · have hx40 := hb39
                              have h := if_t h hx40
                              refine W_seq ?_
                              refine (Bool.eq_false_or_eq_true (decide (a0.Text = ([] : List UInt8)))).elim (fun hb41 => ?_) (fun hb41 => ?_)
                              · have hx42 := hb41
                                have h := if_t h hx42
                                refine (Bool.eq_false_or_eq_true (decide (a0.Num = 12))).elim (fun hb43 => ?_) (fun hb43 => ?_)
                                · have hx44 := hb43
                                  have h := if_t h hx44
                                  refine W_y (s' := LS.mk 122 [(2, aB true)] []) mixed [qn0, qn0, qt0, qt0, qt0, qt0, qt0, qt0, qt0, qt (.dec true), qn (.dec true), qn0] ⟨[2], [], [], [], [], [], []⟩ (aC hx42 (aC hx42 (aC hx42 (aC hx42 (aC hx44 (aC hx44 (aC hx44 (aC hx42 (aC hx44 (aC hx42 aN)))))))))) (by kernel_rfl) ?_
                                  refine W_ret ?_
                                  exact kr [] _ _ (by kernel_rfl) (Option.some.inj h)
                                · have hx44 := hb43
                                  have h := if_f h hx44
                                  refine W_y (s' := LS.mk 122 [(2, aB (decide (a0.Num = 13)))] []) mixed [qn0, qn0, qt0, qt0, qt0, qt0, qf0, qf0, qf0, qt (.dec false), qn (.dec true), qn0] ⟨[2], [], [], [], [], [], []⟩ (aC hx42 (aC hx42 (aC hx42 (aC hx42 (aC hx44 (aC hx44 (aC hx44 (aC hx42 (aC hx44 (aC hx42 aN)))))))))) (by kernel_rfl) ?_
                                  refine W_ret ?_
                                  exact kr [] _ _ (by kernel_rfl) (Option.some.inj h)
                              · have hx42 := hb41
                                have h := if_f h hx42
                                refine W_y (s' := LS.mk 122 [(2, aB false)] []) mixed [qn0, qn0, qf0, qf0, qf0, qf0, qn0, qn0, qn0, qf0, qn (.dec false), qn0] ⟨[2], [], [], [], [], [], []⟩ (aC hx42 (aC hx42 (aC hx42 (aC hx42 (aC hx42 (aC hx42 aN)))))) (by kernel_rfl) ?_
                                refine W_ret ?_
                                exact kr [] _ _ (by kernel_rfl) (Option.some.inj h)
                            · have hx40 := hb39
                              have h := if_f h hx40
                              refine W_seq ?_
                              refine W_y (s' := LS.mk 122 [(1, .ptr 1 0), (3, aB (decide (a0.Text = ([] : List UInt8)))), (4, aB (decide (a0.Num = 0))), (95, aB (decide (a0.Kind = 31)))] [(1, some (.box 32 [aI .u8 a0.Kind, aI .i64 a0.Line, aI .i64 a0.Col, aI .i64 a0.Size, aI .i64 a0.Num, aS a0.Text]))]) mixed [qn0, qn0] ⟨[1, 3, 4, 95], [], [1], [], [], [], []⟩ aN (by kernel_rfl) ?_
                              refine W_cond (decide (a0.Kind = 31)) (by kernel_rfl) (fun hb45 => ?_) (fun hb45 => ?_)
                              · have hx46 := hb45
                                have h := if_t h hx46
                                refine W_seq ?_
                                refine (Bool.eq_false_or_eq_true (decide (a0.Text = ([] : List UInt8)))).elim (fun hb47 => ?_) (fun hb47 => ?_)
                                · have hx48 := hb47
                                  have h := if_t h hx48
                                  refine (Bool.eq_false_or_eq_true (decide (a0.Num ≥ 1))).elim (fun hb49 => ?_) (fun hb49 => ?_)
                                  · have hx50 := hb49
                                    have h := if_t h hx50
                                    refine (Bool.eq_false_or_eq_true (decide (a0.Num ≤ 11))).elim (fun hb51 => ?_) (fun hb51 => ?_)
                                    · have hx52 := hb51
                                      have h := if_t h hx52
                                      refine W_y (s' := LS.mk 122 [(2, aB true)] []) mixed [qn0, qn0, qt0, qt0, qt0, qt0, qt0, qt0, qt0, qt (.dec true), qt0, qt0, qt0, qt0, qt (.dec true), qt0, qn0, qn0, qn0, qt0, qn (.dec true), qn0] ⟨[2], [], [], [], [], [], []⟩ (aC hx48 (aC hx48 (aC hx48 (aC hx48 (aC hx50 (aC hx50 (aC hx50 (aC hx48 (aC hx50 (aC hx48 (aC hx52 (aC hx52 (aC hx52 (aC hx48 (aC hx52 (aC hx48 (aC hx48 (aC hx48 aN)))))))))))))))))) (by kernel_rfl) ?_
                                      refine W_ret ?_
                                      exact kr [] _ _ (by kernel_rfl) (Option.some.inj h)
                                    · have hx52 := hb51
                                      have h := if_f h hx52
                                      refine (Bool.eq_false_or_eq_true (decide (a0.Num = 14))).elim (fun hb53 => ?_) (fun hb53 => ?_)
                                      · have hx54 := hb53
                                        have h := if_t h hx54
                                        refine W_y (s' := LS.mk 122 [(2, aB true)] []) mixed [qn0, qn0, qt0, qt0, qt0, qt0, qt0, qt0, qt0, qt (.dec true), qt0, qf0, qf0, qf0, qt (.dec false), qt0, qt0, qt0, qt0, qt (.dec true), qn (.dec true), qn0] ⟨[2], [], [], [], [], [], []⟩ (aC hx48 (aC hx48 (aC hx48 (aC hx48 (aC hx50 (aC hx50 (aC hx50 (aC hx48 (aC hx50 (aC hx48 (aC hx52 (aC hx52 (aC hx52 (aC hx48 (aC hx52 (aC hx48 (aC hx54 (aC hx54 (aC hx54 (aC hx48 (aC hx54 (aC hx48 aN)))))))))))))))))))))) (by kernel_rfl) ?_
                                        refine W_ret ?_
                                        exact kr [] _ _ (by kernel_rfl) (Option.some.inj h)
                                      · have hx54 := hb53
                                        have h := if_f h hx54
                                        refine W_y (s' := LS.mk 122 [(2, aB (decide (a0.Num = 15)))] []) mixed [qn0, qn0, qt0, qt0, qt0, qt0, qt0, qt0, qt0, qt (.dec true), qt0, qf0, qf0, qf0, qt (.dec false), qt0, qf0, qf0, qf0, qt (.dec false), qn (.dec true), qn0] ⟨[2], [], [], [], [], [], []⟩ (aC hx48 (aC hx48 (aC hx48 (aC hx48 (aC hx50 (aC hx50 (aC hx50 (aC hx48 (aC hx50 (aC hx48 (aC hx52 (aC hx52 (aC hx52 (aC hx48 (aC hx52 (aC hx48 (aC hx54 (aC hx54 (aC hx54 (aC hx48 (aC hx54 (aC hx48 aN)))))))))))))))))))))) (by kernel_rfl) ?_
                                        refine W_ret ?_
                                        exact kr [] _ _ (by kernel_rfl) (Option.some.inj h)
                                  · have hx50 := hb49
                                    have h := if_f h hx50
                                    refine (Bool.eq_false_or_eq_true (decide (a0.Num = 14))).elim (fun hb55 => ?_) (fun hb55 => ?_)
                                    · have hx56 := hb55
                                      have h := if_t h hx56
                                      refine W_y (s' := LS.mk 122 [(2, aB true)] []) mixed [qn0, qn0, qt0, qt0, qt0, qt0, qf0, qf0, qf0, qt (.dec false), qt0, qn0, qn0, qn0, qt0, qt0, qt0, qt0, qt0, qt (.dec true), qn (.dec true), qn0] ⟨[2], [], [], [], [], [], []⟩ (aC hx48 (aC hx48 (aC hx48 (aC hx48 (aC hx50 (aC hx50 (aC hx50 (aC hx48 (aC hx50 (aC hx48 (aC hx48 (aC hx48 (aC hx56 (aC hx56 (aC hx56 (aC hx48 (aC hx56 (aC hx48 aN)))))))))))))))))) (by kernel_rfl) ?_
                                      refine W_ret ?_
                                      exact kr [] _ _ (by kernel_rfl) (Option.some.inj h)
                                    · have hx56 := hb55
                                      have h := if_f h hx56
                                      refine W_y (s' := LS.mk 122 [(2, aB (decide (a0.Num = 15)))] []) mixed [qn0, qn0, qt0, qt0, qt0, qt0, qf0, qf0, qf0, qt (.dec false), qt0, qn0, qn0, qn0, qt0, qt0, qf0, qf0, qf0, qt (.dec false), qn (.dec true), qn0] ⟨[2], [], [], [], [], [], []⟩ (aC hx48 (aC hx48 (aC hx48 (aC hx48 (aC hx50 (aC hx50 (aC hx50 (aC hx48 (aC hx50 (aC hx48 (aC hx48 (aC hx48 (aC hx56 (aC hx56 (aC hx56 (aC hx48 (aC hx56 (aC hx48 aN)))))))))))))))))) (by kernel_rfl) ?_
                                      refine W_ret ?_
                                      exact kr [] _ _ (by kernel_rfl) (Option.some.inj h)
                                · have hx48 := hb47
                                  have h := if_f h hx48
                                  refine W_y (s' := LS.mk 122 [(2, aB false)] []) mixed [qn0, qn0, qf0, qf0, qf0, qf0, qn0, qn0, qn0, qf0, qf0, qn0, qn0, qn0, qf0, qf0, qn0, qn0, qn0, qf0, qn (.dec false), qn0] ⟨[2], [], [], [], [], [], []⟩ (aC hx48 (aC hx48 (aC hx48 (aC hx48 (aC hx48 (aC hx48 (aC hx48 (aC hx48 (aC hx48 (aC hx48 aN)))))))))) (by kernel_rfl) ?_
                                  refine W_ret ?_
                                  exact kr [] _ _ (by kernel_rfl) (Option.some.inj h)
                              · have hx46 := hb45
                                have h := if_f h hx46
                                refine W_skip ?_
                                refine W_seq ?_
                                refine (Bool.eq_false_or_eq_true (decide (a0.Text = ([] : List UInt8)))).elim (fun hb57 => ?_) (fun hb57 => ?_)
                                · have hx58 := hb57
                                  have h := if_t h hx58
                                  refine W_y (s' := LS.mk 122 [(2, aB (decide (a0.Num = 0)))] []) mixed [qn0, qn0, qt0, qn (.dec true), qn0] ⟨[2], [], [], [], [], [], []⟩ (aC hx58 (aC hx58 aN)) (by kernel_rfl) ?_
                                  refine W_ret ?_
                                  exact kr [] _ _ (by kernel_rfl) (Option.some.inj h)
                                · have hx58 := hb57
                                  have h := if_f h hx58
                                  refine W_y (s' := LS.mk 122 [(2, aB false)] []) mixed [qn0, qn0, qf0, qn (.dec false), qn0] ⟨[2], [], [], [], [], [], []⟩ (aC hx58 (aC hx58 aN)) (by kernel_rfl) ?_
                                  refine W_ret ?_
                                  exact kr [] _ _ (by kernel_rfl) (Option.some.inj h)
def RI_tree_kids (a0 : (List GApiNode)) (a1 : Int) (r : (List Int)) : Prop := FnIO Try.prog 29 [.t (.sl 6 (a0.map c_GApiNode)), aI .i64 a1] [] (.ref 800000) [(800000, .row 3 1 (r.map c_i64))]
def R_tree_kids (a0 : (List GApiNode)) (a1 : Int) (r : (List Int)) : Prop := FnP Try.prog 29 [.t (.sl 6 (a0.map c_GApiNode)), aI .i64 a1] (.t (.sl 1 (r.map c_i64)))
inductive tree_kids_C where
  | l0 (a0 : (List GApiNode)) (a1 : Int) (v0_6_0 : Int) (w0_1005 : (List Int))
  | j1 (w0_1005 : (List Int))
abbrev tree_kids_C_T : tree_kids_C → Type := fun _ => (List Int)
noncomputable def tree_kids_l0_b (g : (i : tree_kids_C) → Option (tree_kids_C_T i)) (a0 : (List GApiNode)) (a1 : Int) (v0_6_0 : Int) (w0_1005 : (List Int)) : Option (List Int) :=
  ((getI a0 a1).bind fun (x3_4 : GApiNode) => (if v0_6_0 ≤ (w64 (a1 + x3_4.Size)) then (if AppOb 8 (w0_1005.length + ([v0_6_0] : List Int).length) then ((getI a0 v0_6_0).bind fun (x5_3 : GApiNode) => g (.l0 a0 a1 (w64 (v0_6_0 + (w64 (1 + x5_3.Size)))) (w0_1005 ++ ([v0_6_0] : List Int)))) else none) else g (.j1 w0_1005)))
noncomputable def tree_kids_j1_b (g : (i : tree_kids_C) → Option (tree_kids_C_T i)) (w0_1005 : (List Int)) : Option (List Int) :=
  (some w0_1005)
noncomputable def tree_kids_B (g : (i : tree_kids_C) → Option (tree_kids_C_T i)) : (i : tree_kids_C) → Option (tree_kids_C_T i)
  | .l0 a0 a1 v0_6_0 w0_1005 => tree_kids_l0_b g a0 a1 v0_6_0 w0_1005
  | .j1 w0_1005 => tree_kids_j1_b g w0_1005
theorem tree_kids_B_fin (i : tree_kids_C) : Fin1 (fun g => tree_kids_B g i) := by
  cases i with
  | l0 a0 a1 v0_6_0 w0_1005 => show Fin1 (fun g => tree_kids_l0_b g a0 a1 v0_6_0 w0_1005); unfold tree_kids_l0_b; repeat (first | refine fin_bind ?_ (fun _ => ?_) | refine fin_ite ?_ ?_ | exact fin_ask _ | exact fin_const _)
  | j1 w0_1005 => show Fin1 (fun g => tree_kids_j1_b g w0_1005); unfold tree_kids_j1_b; repeat (first | refine fin_bind ?_ (fun _ => ?_) | refine fin_ite ?_ ?_ | exact fin_ask _ | exact fin_const _)
noncomputable def tree_kids_l0 (a0 : (List GApiNode)) (a1 : Int) (v0_6_0 : Int) (w0_1005 : (List Int)) : Option (List Int) := fixD tree_kids_B (.l0 a0 a1 v0_6_0 w0_1005)
noncomputable def tree_kids_j1 (w0_1005 : (List Int)) : Option (List Int) := fixD tree_kids_B (.j1 w0_1005)
theorem tree_kids_l0_eq (a0 : (List GApiNode)) (a1 : Int) (v0_6_0 : Int) (w0_1005 : (List Int)) : tree_kids_l0 a0 a1 v0_6_0 w0_1005 =
  ((getI a0 a1).bind fun (x3_4 : GApiNode) => (if v0_6_0 ≤ (w64 (a1 + x3_4.Size)) then (if AppOb 8 (w0_1005.length + ([v0_6_0] : List Int).length) then ((getI a0 v0_6_0).bind fun (x5_3 : GApiNode) => tree_kids_l0 a0 a1 (w64 (v0_6_0 + (w64 (1 + x5_3.Size)))) (w0_1005 ++ ([v0_6_0] : List Int))) else none) else tree_kids_j1 w0_1005)) := fix_eq tree_kids_B_fin _
theorem tree_kids_j1_eq (w0_1005 : (List Int)) : tree_kids_j1 w0_1005 =
  (some w0_1005) := fix_eq tree_kids_B_fin _
set_option maxRecDepth 100000 in
theorem tree_kids_l0_ok (n : Nat)  (a0 : (List GApiNode)) (a1 : Int) (v0_6_0 : Int) (w0_1005 : (List Int)) (r_ : (List Int)) (Q' : Exit → St → Prop) (kr : ∀ (v : CV) (s : LS) (x : (List Int)), retIOX Try.prog v [.tmp 4] s = some ((.ref 800000), [(800000, .row 3 1 (x.map c_i64))]) → x = r_ → Q' .ret s.st) (k_x_0 : ∀ (q : Nat), q < n → ∀ (w0_1005 : (List Int)) (s' : LS), recN tree_kids_B q (.j1 w0_1005) = some r_ → Fits s'.st (LS.mk 31 [(5, .ref 1005)] [(1005, some (.row 3 1 (w0_1005.map c_i64)))]).st → Q' (.exit 0) s'.st) (h : recN tree_kids_B n (.l0 a0 a1 v0_6_0 w0_1005) = some r_) : W Try.prog (subC (bodyC Try.prog 29) [1, 1, 0, 1, 0]) (LS.mk 31 [(0, .t (.sl 6 (a0.map c_GApiNode))), (1, aI .i64 a1), (5, .ref 1005), (6, aI .i64 v0_6_0)] [(1005, some (.row 3 1 (w0_1005.map c_i64)))]).st Q' := by
  refine W_fix (σ := Int × (List Int)) (fun m x_ => m ≤ n ∧ recN tree_kids_B m (.l0 a0 a1 x_.1 x_.2) = some r_) (fun x_ => LS.mk 31 [(0, .t (.sl 6 (a0.map c_GApiNode))), (1, aI .i64 a1), (5, .ref 1005), (6, aI .i64 x_.1)] [(1005, some (.row 3 1 (x_.2.map c_i64)))]) (fun x hx => by cases hx.2) (fun _ _ => rfl) ?_ n (v0_6_0, w0_1005) ⟨Nat.le_refl _, h⟩
  clear h
  rintro m ⟨v0_6_0, w0_1005⟩ ⟨hlt, h⟩
  replace h : tree_kids_l0_b (recN tree_kids_B m) a0 a1 v0_6_0 w0_1005 = some r_ := h
  unfold tree_kids_l0_b at h
  refine W_seq ?_
  refine W_seq ?_
  obtain ⟨x3_4, hx3_4, h⟩ := bind_ok h
  refine W_y (s' := LS.mk 31 [(0, .t (.sl 6 (a0.map c_GApiNode))), (1, aI .i64 a1), (5, .ref 1005), (6, aI .i64 v0_6_0), (17, aB (decide (v0_6_0 ≤ (w64 (a1 + x3_4.Size)))))] [(1005, some (.row 3 1 (w0_1005.map c_i64)))]) mixed [qn0, qn0, qn0, qn0, qn (.ix (Int.toNat a1) (c_GApiNode x3_4)), qn0, qn0, qn0, qn0] ⟨[0, 1, 5, 6, 17], [], [], [], [(1005, 1005)], [], []⟩ (aC (ix_obx c_GApiNode hx3_4) aN) (by kernel_rfl) ?_
  refine W_cond (decide (v0_6_0 ≤ (w64 (a1 + x3_4.Size)))) (by kernel_rfl) (fun hb1001 => ?_) (fun hb1001 => ?_)
  · have hx1002 := hb1001
    have h := if_t h hx1002
    refine W_skip ?_
    refine W_seq ?_
    refine W_block ?_
    obtain ⟨hd1003, h⟩ := ite_ok h
    refine W_y (s' := LS.mk 31 [(0, .t (.sl 6 (a0.map c_GApiNode))), (1, aI .i64 a1), (5, .ref 1005), (6, aI .i64 v0_6_0)] [(1005, some (.row 3 1 ((w0_1005 ++ ([v0_6_0] : List Int)).map c_i64)))]) mixed [qn0, qn0, qn0, qn (.rows ((w0_1005 ++ ([v0_6_0] : List Int)).map c_i64)), qn0] ⟨[0, 1, 5, 6], [], [], [], [(29, 1005)], [], []⟩ (aC (ap_obx c_i64 hd1003) (aC (app_obx c_i64 w0_1005 ([v0_6_0] : List Int)) aN)) (by kernel_rfl) ?_
    obtain ⟨x5_3, hx5_3, h⟩ := bind_ok h
    refine W_y (s' := LS.mk 31 [(0, .t (.sl 6 (a0.map c_GApiNode))), (1, aI .i64 a1), (5, .ref 1005), (6, aI .i64 (w64 (v0_6_0 + (w64 (1 + x5_3.Size)))))] [(1005, some (.row 3 1 ((w0_1005 ++ ([v0_6_0] : List Int)).map c_i64)))]) mixed [qn0, qn0, qn0, qn (.ix (Int.toNat v0_6_0) (c_GApiNode x5_3)), qn0, qn0, qn0, qn0, qn0] ⟨[0, 1, 5, 6], [], [], [], [(1005, 1005)], [], []⟩ (aC (ix_obx c_GApiNode hx5_3) aN) (by kernel_rfl) ?_
    exact ⟨m, ((w64 (v0_6_0 + (w64 (1 + x5_3.Size)))), (w0_1005 ++ ([v0_6_0] : List Int))), Nat.le_refl _, ⟨Nat.le_of_lt hlt, h⟩, convX_fits (v := ⟨[0, 1, 5, 6], [], [], [], [(1005, 1005)], [], []⟩) (s' := LS.mk 31 [(0, .t (.sl 6 (a0.map c_GApiNode))), (1, aI .i64 a1), (5, .ref 1005), (6, aI .i64 (w64 (v0_6_0 + (w64 (1 + x5_3.Size)))))] [(1005, some (.row 3 1 ((w0_1005 ++ ([v0_6_0] : List Int)).map c_i64)))]) (by kernel_rfl)⟩
  · have hx1002 := hb1001
    have h := if_f h hx1002
    refine W_exit ?_
    exact k_x_0 m hlt w0_1005 _ h (convX_fits (v := ⟨[5], [], [], [], [(1005, 1005)], [], []⟩) (s' := LS.mk 31 [(5, .ref 1005)] [(1005, some (.row 3 1 (w0_1005.map c_i64)))]) (by kernel_rfl))
set_option maxRecDepth 100000 in
theorem tree_kids_j1_ok (n : Nat)  (w0_1005 : (List Int)) (r_ : (List Int)) (Q' : Exit → St → Prop) (kr : ∀ (v : CV) (s : LS) (x : (List Int)), retIOX Try.prog v [.tmp 4] s = some ((.ref 800000), [(800000, .row 3 1 (x.map c_i64))]) → x = r_ → Q' .ret s.st)  (h : recN tree_kids_B n (.j1 w0_1005) = some r_) : W Try.prog (subC (bodyC Try.prog 29) [1, 1, 1]) (LS.mk 31 [(5, .ref 1005)] [(1005, some (.row 3 1 (w0_1005.map c_i64)))]).st Q' := by
  cases n with
  | zero => cases h
  | succ m =>
  have hlt : m < m + 1 := Nat.lt_succ_self m
  replace h : tree_kids_j1_b (recN tree_kids_B m) w0_1005 = some r_ := h
  unfold tree_kids_j1_b at h
  refine W_seq ?_
  refine W_y (s' := LS.mk 31 [(4, .ref 1004)] [(1004, some (.row 3 1 (w0_1005.map c_i64)))]) mixed [qn0, qn0] ⟨[4], [], [], [], [(1005, 1004)], [], []⟩ aN (by kernel_rfl) ?_
  refine W_ret ?_
  exact kr ⟨[], [], [], [], [(1004, 800000)], [], []⟩ _ w0_1005 (by kernel_rfl) (Option.some.inj h)
noncomputable def tree_kids (a0 : (List GApiNode)) (a1 : Int) : Option (List Int) :=
  tree_kids_l0 a0 a1 (w64 (a1 + 1)) ([] : List Int)
set_option maxRecDepth 100000 in
theorem tree_kids_ok {a0 : (List GApiNode)} {a1 : Int} {r_ : (List Int)} (h : tree_kids a0 a1 = some r_) : RI_tree_kids a0 a1 r_ := by
  unfold tree_kids at h
  refine fn_ioX (fn := Try.f29) (by kernel_rfl) (c := subC (bodyC Try.prog 29) []) (by kernel_rfl) (by kernel_rfl) (Nat.le_of_ble_eq_true (by kernel_rfl)) (Nat.le_of_ble_eq_true (by kernel_rfl)) ?_
  generalize hQ' : retIO Try.prog Try.f29 (.ref 800000) [(800000, .row 3 1 (r_.map c_i64))] = Q'
  have kr : ∀ (v : CV) (s : LS) (x : (List Int)), retIOX Try.prog v [.tmp 4] s = some ((.ref 800000), [(800000, .row 3 1 (x.map c_i64))]) → x = r_ → Q' .ret s.st := by subst hQ'; intro ns s x hx hq; subst hq; exact retIO_ret (fn := Try.f29) ns hx
  change W Try.prog _ (LS.mk 31 [(0, .t (.sl 6 (a0.map c_GApiNode))), (1, aI .i64 a1)] []).st Q'
  refine W_seq ?_
  refine W_y (s' := LS.mk 31 [(0, .t (.sl 6 (a0.map c_GApiNode))), (1, aI .i64 a1)] []) mixed [qn0] ⟨[0, 1], [], [], [], [], [], []⟩ aN (by kernel_rfl) ?_
  refine W_seq ?_
  refine W_y (s' := LS.mk 31 [(0, .t (.sl 6 (a0.map c_GApiNode))), (1, aI .i64 a1), (5, aNil)] []) mixed [qn0] ⟨[0, 1, 5], [], [], [], [], [], []⟩ aN (by kernel_rfl) ?_
  refine W_seq ?_
  refine W_seq ?_
  refine W_y (s' := LS.mk 31 [(0, .t (.sl 6 (a0.map c_GApiNode))), (1, aI .i64 a1), (5, aNil), (6, aI .i64 (w64 (a1 + 1)))] []) mixed [qn0, qn0, qn0] ⟨[0, 1, 5, 6], [], [], [], [], [], []⟩ aN (by kernel_rfl) ?_
  refine W_block ?_
  obtain ⟨n, h⟩ := fix_rec h
  exact W_conv (s' := LS.mk 31 [(0, .t (.sl 6 (a0.map c_GApiNode))), (1, aI .i64 a1), (5, .ref 1005), (6, aI .i64 (w64 (a1 + 1)))] [(1005, some (.row 3 1 (([] : List Int).map c_i64)))]) ⟨[0, 1, 5, 6], [(5, 0, .row 1005)], [], [], [], [], [(1005, 3, 1)]⟩ (by kernel_rfl) (tree_kids_l0_ok n a0 a1 (w64 (a1 + 1)) ([] : List Int) r_ _ kr (fun q1 hq1 w0_1005 s' h hf => W_pre hf (tree_kids_j1_ok q1 w0_1005 r_ _ kr h)) h)
theorem tree_kids_okp {a0 : (List GApiNode)} {a1 : Int} {r_ : (List Int)} (h : tree_kids a0 a1 = some r_) : R_tree_kids a0 a1 r_ := fnio_pure (tree_kids_ok h) (by kernel_rfl) (by kernel_rfl)
end Go.Proofs.Ytahioekdpndohaa
