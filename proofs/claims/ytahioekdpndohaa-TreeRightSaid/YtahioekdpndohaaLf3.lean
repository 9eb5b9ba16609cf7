/- Functions of the program, lifted. -/
import Derived.Test.YtahioekdpndohaaLf2
namespace Go.Proofs.Ytahioekdpndohaa
open Go.RowKit
set_option linter.unusedVariables false
set_option maxHeartbeats 4000000
def R_tree_May (a0 : (List GApiNode)) (r : Bool) : Prop := FnP Try.prog 12 [.t (.sl 6 (a0.map c_GApiNode))] (aB r)
inductive tree_May_C where
  | l0 (a0 : (List GApiNode)) (v0_26_0 : Int)
  | l1 (a0 : (List GApiNode)) (v1_3_0 : Int) (v1_26_0 : Int) (r7_2 : (List Int)) (v1_38_0 : Int) (x6_2 : GApiNode) (w1_100406 : (List GApiNode))
  | j2 
  | j3 (a0 : (List GApiNode)) (v3_3_0 : Int) (v3_26_0 : Int) (x6_2 : GApiNode) (w1_100406 : (List GApiNode))
  | j4 (a0 : (List GApiNode)) (v4_26_0 : Int)
  | j5 (a0 : (List GApiNode)) (v3_3_0 : Int) (v3_26_0 : Int) (x6_2 : GApiNode) (w1_100406 : (List GApiNode))
abbrev tree_May_C_T : tree_May_C → Type := fun _ => Bool
noncomputable def tree_May_l0_b (g : (i : tree_May_C) → Option (tree_May_C_T i)) (a0 : (List GApiNode)) (v0_26_0 : Int) : Option Bool :=
  (if v0_26_0 < (a0.length : Int) then ((getI a0 v0_26_0).bind fun (x6_2 : GApiNode) => ((tree_kids a0 v0_26_0).bind fun (r7_2 : (List Int)) => g (.l1 a0 v0_26_0 v0_26_0 r7_2 0 x6_2 ([] : List GApiNode)))) else g (.j2))
noncomputable def tree_May_l1_b (g : (i : tree_May_C) → Option (tree_May_C_T i)) (a0 : (List GApiNode)) (v1_3_0 : Int) (v1_26_0 : Int) (r7_2 : (List Int)) (v1_38_0 : Int) (x6_2 : GApiNode) (w1_100406 : (List GApiNode)) : Option Bool :=
  (if v1_38_0 < (r7_2.length : Int) then ((getI r7_2 v1_38_0).bind fun (x9_0 : Int) => ((getI a0 x9_0).bind fun (x10_4 : GApiNode) => (if AppOb 56 (w1_100406.length + ([x10_4] : List GApiNode).length) then g (.l1 a0 v1_3_0 v1_26_0 r7_2 (w64 (v1_38_0 + 1)) x6_2 (w1_100406 ++ ([x10_4] : List GApiNode))) else none))) else g (.j3 a0 v1_3_0 v1_26_0 x6_2 w1_100406))
noncomputable def tree_May_j2_b (g : (i : tree_May_C) → Option (tree_May_C_T i))  : Option Bool :=
  (some true)
noncomputable def tree_May_j3_b (g : (i : tree_May_C) → Option (tree_May_C_T i)) (a0 : (List GApiNode)) (v3_3_0 : Int) (v3_26_0 : Int) (x6_2 : GApiNode) (w1_100406 : (List GApiNode)) : Option Bool :=
  (if v3_3_0 = 0 then ((tree_of ([2, 4] : List Int)).bind fun (r12_5 : Fv35) => ((tree_look_all (GTreeLook.mk x6_2 w1_100406) r12_5).bind fun (r12_6 : Bool) => (if r12_6 = true then g (.j5 a0 v3_3_0 v3_26_0 x6_2 w1_100406) else (some false)))) else g (.j5 a0 v3_3_0 v3_26_0 x6_2 w1_100406))
noncomputable def tree_May_j4_b (g : (i : tree_May_C) → Option (tree_May_C_T i)) (a0 : (List GApiNode)) (v4_26_0 : Int) : Option Bool :=
  g (.l0 a0 (w64 (v4_26_0 + 1)))
noncomputable def tree_May_j5_b (g : (i : tree_May_C) → Option (tree_May_C_T i)) (a0 : (List GApiNode)) (v3_3_0 : Int) (v3_26_0 : Int) (x6_2 : GApiNode) (w1_100406 : (List GApiNode)) : Option Bool :=
  (if v3_3_0 > 0 then ((getI a0 v3_3_0).bind fun (x14_5 : GApiNode) => ((tree_fields x14_5).bind fun (r14_7 : Bool) => (if r14_7 = true then ((tree_look_right (GTreeLook.mk x6_2 w1_100406)).bind fun (r14_11 : Bool) => (if r14_11 = true then g (.j4 a0 v3_26_0) else (some false))) else (some false)))) else g (.j4 a0 v3_26_0))
noncomputable def tree_May_B (g : (i : tree_May_C) → Option (tree_May_C_T i)) : (i : tree_May_C) → Option (tree_May_C_T i)
  | .l0 a0 v0_26_0 => tree_May_l0_b g a0 v0_26_0
  | .l1 a0 v1_3_0 v1_26_0 r7_2 v1_38_0 x6_2 w1_100406 => tree_May_l1_b g a0 v1_3_0 v1_26_0 r7_2 v1_38_0 x6_2 w1_100406
  | .j2  => tree_May_j2_b g 
  | .j3 a0 v3_3_0 v3_26_0 x6_2 w1_100406 => tree_May_j3_b g a0 v3_3_0 v3_26_0 x6_2 w1_100406
  | .j4 a0 v4_26_0 => tree_May_j4_b g a0 v4_26_0
  | .j5 a0 v3_3_0 v3_26_0 x6_2 w1_100406 => tree_May_j5_b g a0 v3_3_0 v3_26_0 x6_2 w1_100406
theorem tree_May_B_fin (i : tree_May_C) : Fin1 (fun g => tree_May_B g i) := by
  cases i with
  | l0 a0 v0_26_0 => show Fin1 (fun g => tree_May_l0_b g a0 v0_26_0); unfold tree_May_l0_b; repeat (first | refine fin_bind ?_ (fun _ => ?_) | refine fin_ite ?_ ?_ | exact fin_ask _ | exact fin_const _)
  | l1 a0 v1_3_0 v1_26_0 r7_2 v1_38_0 x6_2 w1_100406 => show Fin1 (fun g => tree_May_l1_b g a0 v1_3_0 v1_26_0 r7_2 v1_38_0 x6_2 w1_100406); unfold tree_May_l1_b; repeat (first | refine fin_bind ?_ (fun _ => ?_) | refine fin_ite ?_ ?_ | exact fin_ask _ | exact fin_const _)
  | j2  => show Fin1 (fun g => tree_May_j2_b g ); unfold tree_May_j2_b; repeat (first | refine fin_bind ?_ (fun _ => ?_) | refine fin_ite ?_ ?_ | exact fin_ask _ | exact fin_const _)
  | j3 a0 v3_3_0 v3_26_0 x6_2 w1_100406 => show Fin1 (fun g => tree_May_j3_b g a0 v3_3_0 v3_26_0 x6_2 w1_100406); unfold tree_May_j3_b; repeat (first | refine fin_bind ?_ (fun _ => ?_) | refine fin_ite ?_ ?_ | exact fin_ask _ | exact fin_const _)
  | j4 a0 v4_26_0 => show Fin1 (fun g => tree_May_j4_b g a0 v4_26_0); unfold tree_May_j4_b; repeat (first | refine fin_bind ?_ (fun _ => ?_) | refine fin_ite ?_ ?_ | exact fin_ask _ | exact fin_const _)
  | j5 a0 v3_3_0 v3_26_0 x6_2 w1_100406 => show Fin1 (fun g => tree_May_j5_b g a0 v3_3_0 v3_26_0 x6_2 w1_100406); unfold tree_May_j5_b; repeat (first | refine fin_bind ?_ (fun _ => ?_) | refine fin_ite ?_ ?_ | exact fin_ask _ | exact fin_const _)
noncomputable def tree_May_l0 (a0 : (List GApiNode)) (v0_26_0 : Int) : Option Bool := fixD tree_May_B (.l0 a0 v0_26_0)
noncomputable def tree_May_l1 (a0 : (List GApiNode)) (v1_3_0 : Int) (v1_26_0 : Int) (r7_2 : (List Int)) (v1_38_0 : Int) (x6_2 : GApiNode) (w1_100406 : (List GApiNode)) : Option Bool := fixD tree_May_B (.l1 a0 v1_3_0 v1_26_0 r7_2 v1_38_0 x6_2 w1_100406)
noncomputable def tree_May_j2  : Option Bool := fixD tree_May_B (.j2 )
noncomputable def tree_May_j3 (a0 : (List GApiNode)) (v3_3_0 : Int) (v3_26_0 : Int) (x6_2 : GApiNode) (w1_100406 : (List GApiNode)) : Option Bool := fixD tree_May_B (.j3 a0 v3_3_0 v3_26_0 x6_2 w1_100406)
noncomputable def tree_May_j4 (a0 : (List GApiNode)) (v4_26_0 : Int) : Option Bool := fixD tree_May_B (.j4 a0 v4_26_0)
noncomputable def tree_May_j5 (a0 : (List GApiNode)) (v3_3_0 : Int) (v3_26_0 : Int) (x6_2 : GApiNode) (w1_100406 : (List GApiNode)) : Option Bool := fixD tree_May_B (.j5 a0 v3_3_0 v3_26_0 x6_2 w1_100406)
theorem tree_May_l0_eq (a0 : (List GApiNode)) (v0_26_0 : Int) : tree_May_l0 a0 v0_26_0 =
  (if v0_26_0 < (a0.length : Int) then ((getI a0 v0_26_0).bind fun (x6_2 : GApiNode) => ((tree_kids a0 v0_26_0).bind fun (r7_2 : (List Int)) => tree_May_l1 a0 v0_26_0 v0_26_0 r7_2 0 x6_2 ([] : List GApiNode))) else tree_May_j2) := fix_eq tree_May_B_fin _
theorem tree_May_l1_eq (a0 : (List GApiNode)) (v1_3_0 : Int) (v1_26_0 : Int) (r7_2 : (List Int)) (v1_38_0 : Int) (x6_2 : GApiNode) (w1_100406 : (List GApiNode)) : tree_May_l1 a0 v1_3_0 v1_26_0 r7_2 v1_38_0 x6_2 w1_100406 =
  (if v1_38_0 < (r7_2.length : Int) then ((getI r7_2 v1_38_0).bind fun (x9_0 : Int) => ((getI a0 x9_0).bind fun (x10_4 : GApiNode) => (if AppOb 56 (w1_100406.length + ([x10_4] : List GApiNode).length) then tree_May_l1 a0 v1_3_0 v1_26_0 r7_2 (w64 (v1_38_0 + 1)) x6_2 (w1_100406 ++ ([x10_4] : List GApiNode)) else none))) else tree_May_j3 a0 v1_3_0 v1_26_0 x6_2 w1_100406) := fix_eq tree_May_B_fin _
theorem tree_May_j2_eq  : tree_May_j2  =
  (some true) := fix_eq tree_May_B_fin _
theorem tree_May_j3_eq (a0 : (List GApiNode)) (v3_3_0 : Int) (v3_26_0 : Int) (x6_2 : GApiNode) (w1_100406 : (List GApiNode)) : tree_May_j3 a0 v3_3_0 v3_26_0 x6_2 w1_100406 =
  (if v3_3_0 = 0 then ((tree_of ([2, 4] : List Int)).bind fun (r12_5 : Fv35) => ((tree_look_all (GTreeLook.mk x6_2 w1_100406) r12_5).bind fun (r12_6 : Bool) => (if r12_6 = true then tree_May_j5 a0 v3_3_0 v3_26_0 x6_2 w1_100406 else (some false)))) else tree_May_j5 a0 v3_3_0 v3_26_0 x6_2 w1_100406) := fix_eq tree_May_B_fin _
theorem tree_May_j4_eq (a0 : (List GApiNode)) (v4_26_0 : Int) : tree_May_j4 a0 v4_26_0 =
  tree_May_l0 a0 (w64 (v4_26_0 + 1)) := fix_eq tree_May_B_fin _
theorem tree_May_j5_eq (a0 : (List GApiNode)) (v3_3_0 : Int) (v3_26_0 : Int) (x6_2 : GApiNode) (w1_100406 : (List GApiNode)) : tree_May_j5 a0 v3_3_0 v3_26_0 x6_2 w1_100406 =
  (if v3_3_0 > 0 then ((getI a0 v3_3_0).bind fun (x14_5 : GApiNode) => ((tree_fields x14_5).bind fun (r14_7 : Bool) => (if r14_7 = true then ((tree_look_right (GTreeLook.mk x6_2 w1_100406)).bind fun (r14_11 : Bool) => (if r14_11 = true then tree_May_j4 a0 v3_26_0 else (some false))) else (some false)))) else tree_May_j4 a0 v3_26_0) := fix_eq tree_May_B_fin _
set_option maxRecDepth 100000 in
theorem tree_May_l1_ok (n : Nat)  (a0 : (List GApiNode)) (v1_3_0 : Int) (v1_26_0 : Int) (r7_2 : (List Int)) (v1_38_0 : Int) (x6_2 : GApiNode) (w1_100406 : (List GApiNode)) (r_ : Bool) (Q' : Exit → St → Prop) (kr : ∀ (ns : List (Nat × Nat × Nat)) (s : LS) (x : Bool), retX Try.prog ns [.tmp 2] s = some (aB x) → x = r_ → Q' .ret s.st) (k_x_2 : ∀ (q : Nat), q < n → ∀ (v3_3_0 : Int) (v3_26_0 : Int) (w1_100406 : (List GApiNode)) (s' : LS), recN tree_May_B q (.j3 a0 v3_3_0 v3_26_0 x6_2 w1_100406) = some r_ → Fits s'.st (LS.mk 79 [(0, .t (.sl 6 (a0.map c_GApiNode))), (3, aI .i64 v3_3_0), (4, .ptr 4 0), (25, aI .i64 (a0.length : Int)), (26, aI .i64 v3_26_0)] [(4, some (.box 37 [aI .u8 x6_2.Kind, aI .i64 x6_2.Line, aI .i64 x6_2.Col, aI .i64 x6_2.Size, aI .i64 x6_2.Num, aS x6_2.Text, .ref 100406])), (100406, some (.row 32 6 (w1_100406.map c_GApiNode)))]).st → Q' (.exit 2) s'.st) (h : recN tree_May_B n (.l1 a0 v1_3_0 v1_26_0 r7_2 v1_38_0 x6_2 w1_100406) = some r_) : W Try.prog (subC (bodyC Try.prog 12) [1, 1, 0, 1, 0, 0, 1, 1, 0, 0, 1, 1, 0, 1, 0]) (LS.mk 79 [(0, .t (.sl 6 (a0.map c_GApiNode))), (3, aI .i64 v1_3_0), (4, .ptr 4 0), (25, aI .i64 (a0.length : Int)), (26, aI .i64 v1_26_0), (36, .ref 1036), (37, aI .i64 (r7_2.length : Int)), (38, aI .i64 v1_38_0)] [(4, some (.box 37 [aI .u8 x6_2.Kind, aI .i64 x6_2.Line, aI .i64 x6_2.Col, aI .i64 x6_2.Size, aI .i64 x6_2.Num, aS x6_2.Text, .ref 100406])), (1036, some (.row 3 1 (r7_2.map c_i64))), (100406, some (.row 32 6 (w1_100406.map c_GApiNode)))]).st Q' := by
  refine W_fix (σ := Int × Int × Int × (List GApiNode)) (fun m x_ => m ≤ n ∧ recN tree_May_B m (.l1 a0 x_.1 x_.2.1 r7_2 x_.2.2.1 x6_2 x_.2.2.2) = some r_) (fun x_ => LS.mk 79 [(0, .t (.sl 6 (a0.map c_GApiNode))), (3, aI .i64 x_.1), (4, .ptr 4 0), (25, aI .i64 (a0.length : Int)), (26, aI .i64 x_.2.1), (36, .ref 1036), (37, aI .i64 (r7_2.length : Int)), (38, aI .i64 x_.2.2.1)] [(4, some (.box 37 [aI .u8 x6_2.Kind, aI .i64 x6_2.Line, aI .i64 x6_2.Col, aI .i64 x6_2.Size, aI .i64 x6_2.Num, aS x6_2.Text, .ref 100406])), (1036, some (.row 3 1 (r7_2.map c_i64))), (100406, some (.row 32 6 (x_.2.2.2.map c_GApiNode)))]) (fun x hx => by cases hx.2) (fun _ _ => rfl) ?_ n (v1_3_0, v1_26_0, v1_38_0, w1_100406) ⟨Nat.le_refl _, h⟩
  clear h
  rintro m ⟨v1_3_0, v1_26_0, v1_38_0, w1_100406⟩ ⟨hlt, h⟩
  replace h : tree_May_l1_b (recN tree_May_B m) a0 v1_3_0 v1_26_0 r7_2 v1_38_0 x6_2 w1_100406 = some r_ := h
  unfold tree_May_l1_b at h
  refine W_seq ?_
  refine W_y (s' := LS.mk 79 [(0, .t (.sl 6 (a0.map c_GApiNode))), (3, aI .i64 v1_3_0), (4, .ptr 4 0), (25, aI .i64 (a0.length : Int)), (26, aI .i64 v1_26_0), (36, .ref 1036), (37, aI .i64 (r7_2.length : Int)), (38, aI .i64 v1_38_0), (39, aB (decide (v1_38_0 < (r7_2.length : Int))))] [(4, some (.box 37 [aI .u8 x6_2.Kind, aI .i64 x6_2.Line, aI .i64 x6_2.Col, aI .i64 x6_2.Size, aI .i64 x6_2.Num, aS x6_2.Text, .ref 100406])), (1036, some (.row 3 1 (r7_2.map c_i64))), (100406, some (.row 32 6 (w1_100406.map c_GApiNode)))]) mixed [qn0] ⟨[0, 3, 4, 25, 26, 36, 37, 38, 39], [], [4], [], [(1036, 1036), (100406, 100406)], [], []⟩ aN (by kernel_rfl) ?_
  refine W_seq ?_
  refine W_cond (decide (v1_38_0 < (r7_2.length : Int))) (by kernel_rfl) (fun hb2001 => ?_) (fun hb2001 => ?_)
  · have hx2002 := hb2001
    have h := if_t h hx2002
    refine W_skip ?_
    refine W_seq ?_
    refine W_block ?_
    refine W_seq ?_
    obtain ⟨x9_0, hx9_0, h⟩ := bind_ok h
    refine W_y (s' := LS.mk 79 [(0, .t (.sl 6 (a0.map c_GApiNode))), (3, aI .i64 v1_3_0), (4, .ptr 4 0), (6, aI .i64 x9_0), (25, aI .i64 (a0.length : Int)), (26, aI .i64 v1_26_0), (36, .ref 1036), (37, aI .i64 (r7_2.length : Int)), (38, aI .i64 v1_38_0)] [(4, some (.box 37 [aI .u8 x6_2.Kind, aI .i64 x6_2.Line, aI .i64 x6_2.Col, aI .i64 x6_2.Size, aI .i64 x6_2.Num, aS x6_2.Text, .ref 100406])), (1036, some (.row 3 1 (r7_2.map c_i64))), (100406, some (.row 32 6 (w1_100406.map c_GApiNode)))]) mixed [qn (.ix (Int.toNat v1_38_0) (c_i64 x9_0)), qn (.ix (Int.toNat v1_38_0) (c_i64 x9_0)), qn0] ⟨[0, 3, 4, 6, 25, 26, 36, 37, 38], [], [4], [], [(1036, 1036), (100406, 100406)], [], []⟩ (aC (ix_obx c_i64 hx9_0) (aC (el_obx c_i64 hx9_0) aN)) (by kernel_rfl) ?_
    obtain ⟨x10_4, hx10_4, h⟩ := bind_ok h
    obtain ⟨hd2003, h⟩ := ite_ok h
    refine W_y (s' := LS.mk 79 [(0, .t (.sl 6 (a0.map c_GApiNode))), (3, aI .i64 v1_3_0), (4, .ptr 4 0), (25, aI .i64 (a0.length : Int)), (26, aI .i64 v1_26_0), (36, .ref 1036), (37, aI .i64 (r7_2.length : Int)), (38, aI .i64 v1_38_0)] [(4, some (.box 37 [aI .u8 x6_2.Kind, aI .i64 x6_2.Line, aI .i64 x6_2.Col, aI .i64 x6_2.Size, aI .i64 x6_2.Num, aS x6_2.Text, .ref 100406])), (100406, some (.row 32 6 ((w1_100406 ++ ([x10_4] : List GApiNode)).map c_GApiNode))), (1036, some (.row 3 1 (r7_2.map c_i64)))]) mixed [qn0, qn0, qn0, qn0, qn (.ix (Int.toNat x9_0) (c_GApiNode x10_4)), qn0, qn0, qn (.rows ((w1_100406 ++ ([x10_4] : List GApiNode)).map c_GApiNode)), qn0, qn0] ⟨[0, 3, 4, 25, 26, 36, 37, 38], [], [4], [], [(49, 100406), (1036, 1036)], [], []⟩ (aC (ix_obx c_GApiNode hx10_4) (aC (ap_obx c_GApiNode hd2003) (aC (app_obx c_GApiNode w1_100406 ([x10_4] : List GApiNode)) aN))) (by kernel_rfl) ?_
    refine W_y (s' := LS.mk 79 [(0, .t (.sl 6 (a0.map c_GApiNode))), (3, aI .i64 v1_3_0), (4, .ptr 4 0), (25, aI .i64 (a0.length : Int)), (26, aI .i64 v1_26_0), (36, .ref 1036), (37, aI .i64 (r7_2.length : Int)), (38, aI .i64 (w64 (v1_38_0 + 1)))] [(4, some (.box 37 [aI .u8 x6_2.Kind, aI .i64 x6_2.Line, aI .i64 x6_2.Col, aI .i64 x6_2.Size, aI .i64 x6_2.Num, aS x6_2.Text, .ref 100406])), (1036, some (.row 3 1 (r7_2.map c_i64))), (100406, some (.row 32 6 ((w1_100406 ++ ([x10_4] : List GApiNode)).map c_GApiNode)))]) mixed [qn0, qn0] ⟨[0, 3, 4, 25, 26, 36, 37, 38], [], [4], [], [(1036, 1036), (100406, 100406)], [], []⟩ aN (by kernel_rfl) ?_
    exact ⟨m, (v1_3_0, v1_26_0, (w64 (v1_38_0 + 1)), (w1_100406 ++ ([x10_4] : List GApiNode))), Nat.le_refl _, ⟨Nat.le_of_lt hlt, h⟩, convX_fits (v := ⟨[0, 3, 4, 25, 26, 36, 37, 38], [], [4], [], [(1036, 1036), (100406, 100406)], [], []⟩) (s' := LS.mk 79 [(0, .t (.sl 6 (a0.map c_GApiNode))), (3, aI .i64 v1_3_0), (4, .ptr 4 0), (25, aI .i64 (a0.length : Int)), (26, aI .i64 v1_26_0), (36, .ref 1036), (37, aI .i64 (r7_2.length : Int)), (38, aI .i64 (w64 (v1_38_0 + 1)))] [(4, some (.box 37 [aI .u8 x6_2.Kind, aI .i64 x6_2.Line, aI .i64 x6_2.Col, aI .i64 x6_2.Size, aI .i64 x6_2.Num, aS x6_2.Text, .ref 100406])), (1036, some (.row 3 1 (r7_2.map c_i64))), (100406, some (.row 32 6 ((w1_100406 ++ ([x10_4] : List GApiNode)).map c_GApiNode)))]) (by kernel_rfl)⟩
  · have hx2002 := hb2001
    have h := if_f h hx2002
    refine W_exit ?_
    exact k_x_2 m hlt v1_3_0 v1_26_0 w1_100406 _ h (convX_fits (v := ⟨[0, 3, 4, 25, 26], [], [4], [], [(100406, 100406)], [], []⟩) (s' := LS.mk 79 [(0, .t (.sl 6 (a0.map c_GApiNode))), (3, aI .i64 v1_3_0), (4, .ptr 4 0), (25, aI .i64 (a0.length : Int)), (26, aI .i64 v1_26_0)] [(4, some (.box 37 [aI .u8 x6_2.Kind, aI .i64 x6_2.Line, aI .i64 x6_2.Col, aI .i64 x6_2.Size, aI .i64 x6_2.Num, aS x6_2.Text, .ref 100406])), (100406, some (.row 32 6 (w1_100406.map c_GApiNode)))]) (by kernel_rfl))
set_option maxRecDepth 100000 in
theorem tree_May_j2_ok (n : Nat)   (r_ : Bool) (Q' : Exit → St → Prop) (kr : ∀ (ns : List (Nat × Nat × Nat)) (s : LS) (x : Bool), retX Try.prog ns [.tmp 2] s = some (aB x) → x = r_ → Q' .ret s.st)  (h : recN tree_May_B n (.j2 ) = some r_) : W Try.prog (subC (bodyC Try.prog 12) [1, 1, 1]) (LS.mk 79 [] []).st Q' := by
  cases n with
  | zero => cases h
  | succ m =>
  have hlt : m < m + 1 := Nat.lt_succ_self m
  replace h : tree_May_j2_b (recN tree_May_B m)  = some r_ := h
  unfold tree_May_j2_b at h
  refine W_seq ?_
  refine W_y (s' := LS.mk 79 [(2, aB true)] []) mixed [qn0] ⟨[2], [], [], [], [], [], []⟩ aN (by kernel_rfl) ?_
  refine W_ret ?_
  exact kr [] _ _ (by kernel_rfl) (Option.some.inj h)
set_option maxRecDepth 100000 in
theorem tree_May_j4_ok (n : Nat)  (a0 : (List GApiNode)) (v4_26_0 : Int) (r_ : Bool) (Q' : Exit → St → Prop) (kr : ∀ (ns : List (Nat × Nat × Nat)) (s : LS) (x : Bool), retX Try.prog ns [.tmp 2] s = some (aB x) → x = r_ → Q' .ret s.st) (k_n : ∀ (q : Nat), q < n → ∀ (v0_26_0 : Int) (s' : LS), recN tree_May_B q (.l0 a0 v0_26_0) = some r_ → Fits s'.st (LS.mk 79 [(0, .t (.sl 6 (a0.map c_GApiNode))), (25, aI .i64 (a0.length : Int)), (26, aI .i64 v0_26_0)] []).st → Q' .normal s'.st) (h : recN tree_May_B n (.j4 a0 v4_26_0) = some r_) : W Try.prog (subC (bodyC Try.prog 12) [1, 1, 0, 1, 0, 0, 1, 1, 1]) (LS.mk 79 [(0, .t (.sl 6 (a0.map c_GApiNode))), (25, aI .i64 (a0.length : Int)), (26, aI .i64 v4_26_0)] []).st Q' := by
  cases n with
  | zero => cases h
  | succ m =>
  have hlt : m < m + 1 := Nat.lt_succ_self m
  replace h : tree_May_j4_b (recN tree_May_B m) a0 v4_26_0 = some r_ := h
  unfold tree_May_j4_b at h
  refine W_y (s' := LS.mk 79 [(0, .t (.sl 6 (a0.map c_GApiNode))), (25, aI .i64 (a0.length : Int)), (26, aI .i64 (w64 (v4_26_0 + 1)))] []) mixed [qn0, qn0] ⟨[0, 25, 26], [], [], [], [], [], []⟩ aN (by kernel_rfl) ?_
  exact k_n m hlt (w64 (v4_26_0 + 1)) _ h (convX_fits (v := ⟨[0, 25, 26], [], [], [], [], [], []⟩) (s' := LS.mk 79 [(0, .t (.sl 6 (a0.map c_GApiNode))), (25, aI .i64 (a0.length : Int)), (26, aI .i64 (w64 (v4_26_0 + 1)))] []) (by kernel_rfl))
set_option maxRecDepth 100000 in
theorem tree_May_j5_ok (n : Nat)  (a0 : (List GApiNode)) (v3_3_0 : Int) (v3_26_0 : Int) (x6_2 : GApiNode) (w1_100406 : (List GApiNode)) (r_ : Bool) (Q' : Exit → St → Prop) (kr : ∀ (ns : List (Nat × Nat × Nat)) (s : LS) (x : Bool), retX Try.prog ns [.tmp 2] s = some (aB x) → x = r_ → Q' .ret s.st) (k_n : ∀ (q : Nat), q < n → ∀ (v4_26_0 : Int) (s' : LS), recN tree_May_B q (.j4 a0 v4_26_0) = some r_ → Fits s'.st (LS.mk 79 [(0, .t (.sl 6 (a0.map c_GApiNode))), (25, aI .i64 (a0.length : Int)), (26, aI .i64 v4_26_0)] []).st → Q' .normal s'.st) (h : recN tree_May_B n (.j5 a0 v3_3_0 v3_26_0 x6_2 w1_100406) = some r_) : W Try.prog (subC (bodyC Try.prog 12) [1, 1, 0, 1, 0, 0, 1, 1, 0, 0, 1, 1, 1, 0, 1, 1]) (LS.mk 79 [(0, .t (.sl 6 (a0.map c_GApiNode))), (3, aI .i64 v3_3_0), (4, .ptr 4 0), (25, aI .i64 (a0.length : Int)), (26, aI .i64 v3_26_0)] [(4, some (.box 37 [aI .u8 x6_2.Kind, aI .i64 x6_2.Line, aI .i64 x6_2.Col, aI .i64 x6_2.Size, aI .i64 x6_2.Num, aS x6_2.Text, .ref 100406])), (100406, some (.row 32 6 (w1_100406.map c_GApiNode)))]).st Q' := by
  cases n with
  | zero => cases h
  | succ m =>
  have hlt : m < m + 1 := Nat.lt_succ_self m
  replace h : tree_May_j5_b (recN tree_May_B m) a0 v3_3_0 v3_26_0 x6_2 w1_100406 = some r_ := h
  unfold tree_May_j5_b at h
  refine W_seq ?_
  refine (Bool.eq_false_or_eq_true (decide (v3_3_0 > 0))).elim (fun hb6001 => ?_) (fun hb6001 => ?_)
  · have hx6002 := hb6001
    have h := if_t h hx6002
    obtain ⟨x14_5, hx14_5, h⟩ := bind_ok h
    obtain ⟨r14_7, hr14_7, h⟩ := bind_ok h
    have hr14_7 := tree_fields_ok hr14_7
    refine (Bool.eq_false_or_eq_true (!r14_7)).elim (fun hb6003 => ?_) (fun hb6003 => ?_)
    · have hx6004 : r14_7 = false := (bnot_t hb6003)
      have h := ib_f h hx6004
      refine W_y (s' := LS.mk 79 [(0, .t (.sl 6 (a0.map c_GApiNode))), (25, aI .i64 (a0.length : Int)), (26, aI .i64 v3_26_0), (62, aB true)] []) mixed [qn0, qn0, qn0, qt0, qt0, qt (.ix (Int.toNat v3_3_0) (c_GApiNode x14_5)), qt0, qt (.call [] (aB r14_7)), qt0, qt0, qt0, qt0, qt0, qt (.dec true), qn (.dec true), qn0] ⟨[0, 25, 26, 62], [], [], [], [], [], []⟩ (aC hx6002 (aC hx6002 (aC hx6002 (aC (ix_obx c_GApiNode hx14_5) (aC hx6002 (aC hx6002 (aC hr14_7 (aC hx6002 (aC hx6002 (aC (not_f hx6004) (aC (not_f hx6004) (aC (not_f hx6004) (aC hx6002 (aC (not_f hx6004) (aC hx6002 aN))))))))))))))) (by kernel_rfl) ?_
      refine W_cond true (by kernel_rfl) (fun _ => ?_) (fun hb => nomatch ((rfl : true = true).symm.trans hb))
      refine W_seq ?_
      refine W_y (s' := LS.mk 79 [(2, aB false)] []) mixed [qn0] ⟨[2], [], [], [], [], [], []⟩ aN (by kernel_rfl) ?_
      refine W_ret ?_
      exact kr [] _ _ (by kernel_rfl) (Option.some.inj h)
    · have hx6004 : r14_7 = true := (bnot_f hb6003)
      have h := ib_t h hx6004
      obtain ⟨r14_11, hr14_11, h⟩ := bind_ok h
      have hr14_11 := tree_look_right_ok hr14_11
      refine W_y (s' := LS.mk 79 [(0, .t (.sl 6 (a0.map c_GApiNode))), (25, aI .i64 (a0.length : Int)), (26, aI .i64 v3_26_0), (62, aB (!r14_11))] []) mixed [qn0, qn0, qn0, qt0, qt0, qt (.ix (Int.toNat v3_3_0) (c_GApiNode x14_5)), qt0, qt (.call [] (aB r14_7)), qt0, qt0, qf0, qf (.call [] (aB r14_11)), qf0, qt (.dec false), qn (.dec true), qn0] ⟨[0, 25, 26, 62], [], [], [], [], [], []⟩ (aC hx6002 (aC hx6002 (aC hx6002 (aC (ix_obx c_GApiNode hx14_5) (aC hx6002 (aC hx6002 (aC hr14_7 (aC hx6002 (aC hx6002 (aC (not_t hx6004) (aC (not_t hx6004) (aC hr14_11 (aC (not_t hx6004) (aC hx6002 (aC (not_t hx6004) (aC hx6002 aN)))))))))))))))) (by kernel_rfl) ?_
      refine W_cond (!r14_11) (by kernel_rfl) (fun hb6005 => ?_) (fun hb6005 => ?_)
      · have hx6006 : r14_11 = false := (bnot_t hb6005)
        have h := ib_f h hx6006
        refine W_seq ?_
        refine W_y (s' := LS.mk 79 [(2, aB false)] []) mixed [qn0] ⟨[2], [], [], [], [], [], []⟩ aN (by kernel_rfl) ?_
        refine W_ret ?_
        exact kr [] _ _ (by kernel_rfl) (Option.some.inj h)
      · have hx6006 : r14_11 = true := (bnot_f hb6005)
        have h := ib_t h hx6006
        refine W_skip ?_
        exact k_n m hlt v3_26_0 _ h (convX_fits (v := ⟨[0, 25, 26], [], [], [], [], [], []⟩) (s' := LS.mk 79 [(0, .t (.sl 6 (a0.map c_GApiNode))), (25, aI .i64 (a0.length : Int)), (26, aI .i64 v3_26_0)] []) (by kernel_rfl))
  · have hx6002 := hb6001
    have h := if_f h hx6002
    refine W_y (s' := LS.mk 79 [(0, .t (.sl 6 (a0.map c_GApiNode))), (25, aI .i64 (a0.length : Int)), (26, aI .i64 v3_26_0), (62, aB false)] []) mixed [qn0, qn0, qn0, qf0, qf0, qf0, qf0, qf0, qf0, qf0, qn0, qn0, qn0, qf0, qn (.dec false), qn0] ⟨[0, 25, 26, 62], [], [], [], [], [], []⟩ (aC hx6002 (aC hx6002 (aC hx6002 (aC hx6002 (aC hx6002 (aC hx6002 (aC hx6002 (aC hx6002 (aC hx6002 aN))))))))) (by kernel_rfl) ?_
    refine W_cond false (by kernel_rfl) (fun hb => nomatch ((rfl : false = false).symm.trans hb)) (fun _ => ?_)
    refine W_skip ?_
    exact k_n m hlt v3_26_0 _ h (convX_fits (v := ⟨[0, 25, 26], [], [], [], [], [], []⟩) (s' := LS.mk 79 [(0, .t (.sl 6 (a0.map c_GApiNode))), (25, aI .i64 (a0.length : Int)), (26, aI .i64 v3_26_0)] []) (by kernel_rfl))
set_option maxRecDepth 100000 in
theorem tree_May_j3_ok (n : Nat)  (a0 : (List GApiNode)) (v3_3_0 : Int) (v3_26_0 : Int) (x6_2 : GApiNode) (w1_100406 : (List GApiNode)) (r_ : Bool) (Q' : Exit → St → Prop) (kr : ∀ (ns : List (Nat × Nat × Nat)) (s : LS) (x : Bool), retX Try.prog ns [.tmp 2] s = some (aB x) → x = r_ → Q' .ret s.st) (k_n : ∀ (q : Nat), q < n → ∀ (v4_26_0 : Int) (s' : LS), recN tree_May_B q (.j4 a0 v4_26_0) = some r_ → Fits s'.st (LS.mk 79 [(0, .t (.sl 6 (a0.map c_GApiNode))), (25, aI .i64 (a0.length : Int)), (26, aI .i64 v4_26_0)] []).st → Q' .normal s'.st) (h : recN tree_May_B n (.j3 a0 v3_3_0 v3_26_0 x6_2 w1_100406) = some r_) : W Try.prog (subC (bodyC Try.prog 12) [1, 1, 0, 1, 0, 0, 1, 1, 0, 0, 1, 1, 1]) (LS.mk 79 [(0, .t (.sl 6 (a0.map c_GApiNode))), (3, aI .i64 v3_3_0), (4, .ptr 4 0), (25, aI .i64 (a0.length : Int)), (26, aI .i64 v3_26_0)] [(4, some (.box 37 [aI .u8 x6_2.Kind, aI .i64 x6_2.Line, aI .i64 x6_2.Col, aI .i64 x6_2.Size, aI .i64 x6_2.Num, aS x6_2.Text, .ref 100406])), (100406, some (.row 32 6 (w1_100406.map c_GApiNode)))]).st Q' := by
  cases n with
  | zero => cases h
  | succ m =>
  have hlt : m < m + 1 := Nat.lt_succ_self m
  replace h : tree_May_j3_b (recN tree_May_B m) a0 v3_3_0 v3_26_0 x6_2 w1_100406 = some r_ := h
  unfold tree_May_j3_b at h
  refine W_block ?_
  refine W_seq ?_
  refine (Bool.eq_false_or_eq_true (decide (v3_3_0 = 0))).elim (fun hb4001 => ?_) (fun hb4001 => ?_)
  · have hx4002 := hb4001
    have h := if_t h hx4002
    obtain ⟨r12_5, hr12_5, h⟩ := bind_ok h
    have hr12_5 := tree_of_ok hr12_5
    obtain ⟨r12_6, hr12_6, h⟩ := bind_ok h
    have hr12_6 := tree_look_all_ok hr12_6
    refine W_y (s' := LS.mk 79 [(0, .t (.sl 6 (a0.map c_GApiNode))), (3, aI .i64 v3_3_0), (4, .ptr 4 0), (25, aI .i64 (a0.length : Int)), (26, aI .i64 v3_26_0), (52, aB (!r12_6))] [(4, some (.box 37 [aI .u8 x6_2.Kind, aI .i64 x6_2.Line, aI .i64 x6_2.Col, aI .i64 x6_2.Size, aI .i64 x6_2.Num, aS x6_2.Text, .ref 100406])), (100406, some (.row 32 6 (w1_100406.map c_GApiNode)))]) mixed [qn0, qn0, qn0, qt0, qt (.quiet (.t (.sl 1 (([2, 4] : List Int).map c_u8)))), qt (.call [] (.t (r12_5.t))), qt (.call [] (aB r12_6)), qt0, qn (.dec true), qn0] ⟨[0, 3, 4, 25, 26, 52], [], [4], [], [(100406, 100406)], [], []⟩ (aC hx4002 (aC hx4002 (aC (show Quiet Try.prog (opAt (subC (bodyC Try.prog 12) [1, 1, 0, 1, 0, 0, 1, 1, 0, 0, 1, 1, 1, 0, 0]) 4) [aI .u8 2, aI .u8 4] (.t (.sl 1 (([2, 4] : List Int).map c_u8))) from makes_quiet (build_makes (by rfl) ti44 (by rfl) ti5 (by kernel_rfl) (by kernel_rfl) (by kernel_rfl) (by rfl) (by rfl) (by kernel_rfl))) (aC hx4002 (aC hr12_5 (aC hx4002 (aC hr12_6 (aC hx4002 (aC hx4002 aN))))))))) (by kernel_rfl) ?_
    refine W_cond (!r12_6) (by kernel_rfl) (fun hb4003 => ?_) (fun hb4003 => ?_)
    · have hx4004 : r12_6 = false := (bnot_t hb4003)
      have h := ib_f h hx4004
      refine W_seq ?_
      refine W_y (s' := LS.mk 79 [(2, aB false)] []) mixed [qn0] ⟨[2], [], [], [], [], [], []⟩ aN (by kernel_rfl) ?_
      refine W_ret ?_
      exact kr [] _ _ (by kernel_rfl) (Option.some.inj h)
    · have hx4004 : r12_6 = true := (bnot_f hb4003)
      have h := ib_t h hx4004
      exact W_conv (s' := LS.mk 79 [(0, .t (.sl 6 (a0.map c_GApiNode))), (3, aI .i64 v3_3_0), (4, .ptr 4 0), (25, aI .i64 (a0.length : Int)), (26, aI .i64 v3_26_0)] [(4, some (.box 37 [aI .u8 x6_2.Kind, aI .i64 x6_2.Line, aI .i64 x6_2.Col, aI .i64 x6_2.Size, aI .i64 x6_2.Num, aS x6_2.Text, .ref 100406])), (100406, some (.row 32 6 (w1_100406.map c_GApiNode)))]) ⟨[0, 3, 4, 25, 26], [], [4], [], [(100406, 100406)], [], []⟩ (by kernel_rfl) (tree_May_j5_ok m a0 v3_3_0 v3_26_0 x6_2 w1_100406 r_ _ kr (fun q1 hq1 v4_26_0 s' h hf => k_n q1 (Nat.lt_trans hq1 hlt) v4_26_0 s' h hf) h)
  · have hx4002 := hb4001
    have h := if_f h hx4002
    refine W_y (s' := LS.mk 79 [(0, .t (.sl 6 (a0.map c_GApiNode))), (3, aI .i64 v3_3_0), (4, .ptr 4 0), (25, aI .i64 (a0.length : Int)), (26, aI .i64 v3_26_0), (52, aB false)] [(4, some (.box 37 [aI .u8 x6_2.Kind, aI .i64 x6_2.Line, aI .i64 x6_2.Col, aI .i64 x6_2.Size, aI .i64 x6_2.Num, aS x6_2.Text, .ref 100406])), (100406, some (.row 32 6 (w1_100406.map c_GApiNode)))]) mixed [qn0, qn0, qn0, qf0, qf0, qf0, qf0, qf0, qn (.dec false), qn0] ⟨[0, 3, 4, 25, 26, 52], [], [4], [], [(100406, 100406)], [], []⟩ (aC hx4002 (aC hx4002 (aC hx4002 (aC hx4002 (aC hx4002 (aC hx4002 aN)))))) (by kernel_rfl) ?_
    refine W_cond false (by kernel_rfl) (fun hb => nomatch ((rfl : false = false).symm.trans hb)) (fun _ => ?_)
    exact W_conv (s' := LS.mk 79 [(0, .t (.sl 6 (a0.map c_GApiNode))), (3, aI .i64 v3_3_0), (4, .ptr 4 0), (25, aI .i64 (a0.length : Int)), (26, aI .i64 v3_26_0)] [(4, some (.box 37 [aI .u8 x6_2.Kind, aI .i64 x6_2.Line, aI .i64 x6_2.Col, aI .i64 x6_2.Size, aI .i64 x6_2.Num, aS x6_2.Text, .ref 100406])), (100406, some (.row 32 6 (w1_100406.map c_GApiNode)))]) ⟨[0, 3, 4, 25, 26], [], [4], [], [(100406, 100406)], [], []⟩ (by kernel_rfl) (tree_May_j5_ok m a0 v3_3_0 v3_26_0 x6_2 w1_100406 r_ _ kr (fun q1 hq1 v4_26_0 s' h hf => k_n q1 (Nat.lt_trans hq1 hlt) v4_26_0 s' h hf) h)
set_option maxRecDepth 100000 in
theorem tree_May_l0_ok (n : Nat)  (a0 : (List GApiNode)) (v0_26_0 : Int) (r_ : Bool) (Q' : Exit → St → Prop) (kr : ∀ (ns : List (Nat × Nat × Nat)) (s : LS) (x : Bool), retX Try.prog ns [.tmp 2] s = some (aB x) → x = r_ → Q' .ret s.st) (k_x_0 : ∀ (q : Nat), q < n → ∀  (s' : LS), recN tree_May_B q (.j2 ) = some r_ → Fits s'.st (LS.mk 79 [] []).st → Q' (.exit 0) s'.st) (h : recN tree_May_B n (.l0 a0 v0_26_0) = some r_) : W Try.prog (subC (bodyC Try.prog 12) [1, 1, 0, 1, 0]) (LS.mk 79 [(0, .t (.sl 6 (a0.map c_GApiNode))), (25, aI .i64 (a0.length : Int)), (26, aI .i64 v0_26_0)] []).st Q' := by
  refine W_fix (σ := Int) (fun m x_ => m ≤ n ∧ recN tree_May_B m (.l0 a0 x_) = some r_) (fun x_ => LS.mk 79 [(0, .t (.sl 6 (a0.map c_GApiNode))), (25, aI .i64 (a0.length : Int)), (26, aI .i64 x_)] []) (fun x hx => by cases hx.2) (fun _ _ => rfl) ?_ n (v0_26_0) ⟨Nat.le_refl _, h⟩
  clear h
  rintro m v0_26_0 ⟨hlt, h⟩
  replace h : tree_May_l0_b (recN tree_May_B m) a0 v0_26_0 = some r_ := h
  unfold tree_May_l0_b at h
  refine W_seq ?_
  refine W_y (s' := LS.mk 79 [(0, .t (.sl 6 (a0.map c_GApiNode))), (25, aI .i64 (a0.length : Int)), (26, aI .i64 v0_26_0), (27, aB (decide (v0_26_0 < (a0.length : Int))))] []) mixed [qn0] ⟨[0, 25, 26, 27], [], [], [], [], [], []⟩ aN (by kernel_rfl) ?_
  refine W_seq ?_
  refine W_cond (decide (v0_26_0 < (a0.length : Int))) (by kernel_rfl) (fun hb1001 => ?_) (fun hb1001 => ?_)
  · have hx1002 := hb1001
    have h := if_t h hx1002
    refine W_skip ?_
    refine W_seq ?_
    refine W_block ?_
    refine W_seq ?_
    refine W_y (s' := LS.mk 79 [(0, .t (.sl 6 (a0.map c_GApiNode))), (3, aI .i64 v0_26_0), (25, aI .i64 (a0.length : Int)), (26, aI .i64 v0_26_0)] []) mixed [qn0, qn0] ⟨[0, 3, 25, 26], [], [], [], [], [], []⟩ aN (by kernel_rfl) ?_
    refine W_seq ?_
    obtain ⟨x6_2, hx6_2, h⟩ := bind_ok h
    refine W_y (s' := LS.mk 79 [(0, .t (.sl 6 (a0.map c_GApiNode))), (3, aI .i64 v0_26_0), (4, .ptr 4 0), (25, aI .i64 (a0.length : Int)), (26, aI .i64 v0_26_0)] [(4, some (.box 37 [aI .u8 x6_2.Kind, aI .i64 x6_2.Line, aI .i64 x6_2.Col, aI .i64 x6_2.Size, aI .i64 x6_2.Num, aS x6_2.Text, aNil]))]) mixed [qn0, qn0, qn (.ix (Int.toNat v0_26_0) (c_GApiNode x6_2)), qn0, qn0, qn0, qn0] ⟨[0, 3, 4, 25, 26], [], [4], [], [], [], []⟩ (aC (ix_obx c_GApiNode hx6_2) aN) (by kernel_rfl) ?_
    refine W_seq ?_
    refine W_seq ?_
    obtain ⟨r7_2, hr7_2, h⟩ := bind_ok h
    have hr7_2 := tree_kids_ok hr7_2
    refine W_y (s' := LS.mk 79 [(0, .t (.sl 6 (a0.map c_GApiNode))), (3, aI .i64 v0_26_0), (4, .ptr 4 0), (25, aI .i64 (a0.length : Int)), (26, aI .i64 v0_26_0), (36, .ref 1036), (37, aI .i64 (r7_2.length : Int)), (38, aI .i64 0)] [(4, some (.box 37 [aI .u8 x6_2.Kind, aI .i64 x6_2.Line, aI .i64 x6_2.Col, aI .i64 x6_2.Size, aI .i64 x6_2.Num, aS x6_2.Text, aNil])), (1036, some (.row 3 1 (r7_2.map c_i64)))]) mixed [qn0, qn0, qn (.io ⟨[], [], [], [], [], [], [(800000, 36)]⟩ (.ref 800000) [(800000, .row 3 1 (r7_2.map c_i64))]), qn (.len r7_2.length), qn0] ⟨[0, 3, 4, 25, 26, 36, 37, 38], [], [4], [], [(36, 1036)], [], []⟩ (aC hr7_2 (aC (len_obx c_i64 r7_2) aN)) (by kernel_rfl) ?_
    refine W_block ?_
    exact W_conv (s' := LS.mk 79 [(0, .t (.sl 6 (a0.map c_GApiNode))), (3, aI .i64 v0_26_0), (4, .ptr 4 0), (25, aI .i64 (a0.length : Int)), (26, aI .i64 v0_26_0), (36, .ref 1036), (37, aI .i64 (r7_2.length : Int)), (38, aI .i64 0)] [(4, some (.box 37 [aI .u8 x6_2.Kind, aI .i64 x6_2.Line, aI .i64 x6_2.Col, aI .i64 x6_2.Size, aI .i64 x6_2.Num, aS x6_2.Text, .ref 100406])), (1036, some (.row 3 1 (r7_2.map c_i64))), (100406, some (.row 32 6 (([] : List GApiNode).map c_GApiNode)))]) ⟨[0, 3, 4, 25, 26, 36, 37, 38], [], [4], [(4, 6, .row 100406)], [(1036, 1036)], [], [(100406, 32, 6)]⟩ (by kernel_rfl) (tree_May_l1_ok m a0 v0_26_0 v0_26_0 r7_2 0 x6_2 ([] : List GApiNode) r_ _ kr (fun q1 hq1 v3_3_0 v3_26_0 w1_100406 s' h hf => W_pre hf (tree_May_j3_ok q1 a0 v3_3_0 v3_26_0 x6_2 w1_100406 r_ _ kr (fun q2 hq2 v4_26_0 s' h hf => W_pre hf (tree_May_j4_ok q2 a0 v4_26_0 r_ _ kr (fun q3 hq3 v0_26_0 s' h hf => ⟨q3, (v0_26_0), Nat.le_of_lt (Nat.lt_trans hq3 (Nat.lt_trans hq2 hq1)), ⟨Nat.le_of_lt (Nat.lt_trans hq3 (Nat.lt_trans hq2 (Nat.lt_trans hq1 hlt))), h⟩, hf⟩) h)) h)) h)
  · have hx1002 := hb1001
    have h := if_f h hx1002
    refine W_exit ?_
    exact k_x_0 m hlt  _ h (convX_fits (v := ⟨[], [], [], [], [], [], []⟩) (s' := LS.mk 79 [] []) (by kernel_rfl))
noncomputable def tree_May (a0 : (List GApiNode)) : Option Bool :=
  ((tree_Right a0).bind fun (r1_1 : Bool) => (if r1_1 = true then ((getI a0 0).bind fun (x1_5 : GApiNode) => (if x1_5.Kind = 1 then ((tree_fields x1_5).bind fun (r1_14 : Bool) => (if r1_14 = true then tree_May_l0 a0 0 else (some false))) else (some false))) else (some false)))
set_option maxRecDepth 100000 in
theorem tree_May_ok {a0 : (List GApiNode)} {r_ : Bool} (h : tree_May a0 = some r_) : R_tree_May a0 r_ := by
  unfold tree_May at h
  refine fn_pureX (fn := Try.f12) (by kernel_rfl) (c := subC (bodyC Try.prog 12) []) (by kernel_rfl) (by kernel_rfl) (Nat.le_of_ble_eq_true (by kernel_rfl)) ?_
  generalize hQ' : retQ Try.prog Try.f12 (aB r_) = Q'
  have kr : ∀ (ns : List (Nat × Nat × Nat)) (s : LS) (x : Bool), retX Try.prog ns [.tmp 2] s = some (aB x) → x = r_ → Q' .ret s.st := by subst hQ'; intro ns s x hx hq; subst hq; exact ret_ok (fn := Try.f12) ns hx
  change W Try.prog _ (LS.mk 79 [(0, .t (.sl 6 (a0.map c_GApiNode)))] []).st Q'
  refine W_seq ?_
  refine W_y (s' := LS.mk 79 [(0, .t (.sl 6 (a0.map c_GApiNode)))] []) mixed [qn0] ⟨[0], [], [], [], [], [], []⟩ aN (by kernel_rfl) ?_
  refine W_seq ?_
  refine W_seq ?_
  obtain ⟨r1_1, hr1_1, h⟩ := bind_ok h
  have hr1_1 := tree_Right_ok hr1_1
  refine (Bool.eq_false_or_eq_true (!r1_1)).elim (fun hb1 => ?_) (fun hb1 => ?_)
  · have hx2 : r1_1 = false := (bnot_t hb1)
    have h := ib_f h hx2
    refine W_y (s' := LS.mk 79 [(0, .t (.sl 6 (a0.map c_GApiNode))), (23, aB true)] []) mixed [qn0, qn (.call [] (aB r1_1)), qn0, qn0, qt0, qt0, qt0, qt0, qt0, qn (.dec true), qn0, qn0, qn0, qn0, qn0, qn0, qn0] ⟨[0, 23], [], [], [], [], [], []⟩ (aC hr1_1 (aC (not_f hx2) (aC (not_f hx2) (aC (not_f hx2) (aC (not_f hx2) (aC (not_f hx2) (aC (not_f hx2) aN))))))) (by kernel_rfl) ?_
    refine W_cond true (by kernel_rfl) (fun _ => ?_) (fun hb => nomatch ((rfl : true = true).symm.trans hb))
    refine W_seq ?_
    refine W_y (s' := LS.mk 79 [(2, aB false)] []) mixed [qn0] ⟨[2], [], [], [], [], [], []⟩ aN (by kernel_rfl) ?_
    refine W_ret ?_
    exact kr [] _ _ (by kernel_rfl) (Option.some.inj h)
  · have hx2 : r1_1 = true := (bnot_f hb1)
    have h := ib_t h hx2
    obtain ⟨x1_5, hx1_5, h⟩ := bind_ok h
    refine (Bool.eq_false_or_eq_true (!(decide (x1_5.Kind = 1)))).elim (fun hb3 => ?_) (fun hb3 => ?_)
    · have hx4 : (decide (x1_5.Kind = 1)) = false := (bnot_t hb3)
      have h := if_f h hx4
      refine W_y (s' := LS.mk 79 [(0, .t (.sl 6 (a0.map c_GApiNode))), (23, aB true)] []) mixed [qn0, qn (.call [] (aB r1_1)), qn0, qn0, qf0, qf (.ix (Int.toNat 0) (c_GApiNode x1_5)), qf0, qf0, qf0, qn (.dec false), qn0, qt0, qt0, qt0, qt0, qt0, qn (.dec true)] ⟨[0, 23], [], [], [], [], [], []⟩ (aC hr1_1 (aC (not_t hx2) (aC (not_t hx2) (aC (ix_obx c_GApiNode hx1_5) (aC (not_t hx2) (aC (not_t hx2) (aC (not_t hx2) (aC (not_t hx2) (aC (not_f hx4) (aC (not_f hx4) (aC (not_f hx4) (aC (not_f hx4) (aC (not_f hx4) (aC (not_f hx4) aN)))))))))))))) (by kernel_rfl) ?_
      refine W_cond true (by kernel_rfl) (fun _ => ?_) (fun hb => nomatch ((rfl : true = true).symm.trans hb))
      refine W_seq ?_
      refine W_y (s' := LS.mk 79 [(2, aB false)] []) mixed [qn0] ⟨[2], [], [], [], [], [], []⟩ aN (by kernel_rfl) ?_
      refine W_ret ?_
      exact kr [] _ _ (by kernel_rfl) (Option.some.inj h)
    · have hx4 : (decide (x1_5.Kind = 1)) = true := (bnot_f hb3)
      have h := if_t h hx4
      obtain ⟨r1_14, hr1_14, h⟩ := bind_ok h
      have hr1_14 := tree_fields_ok hr1_14
      refine W_y (s' := LS.mk 79 [(0, .t (.sl 6 (a0.map c_GApiNode))), (23, aB (!r1_14))] []) mixed [qn0, qn (.call [] (aB r1_1)), qn0, qn0, qf0, qf (.ix (Int.toNat 0) (c_GApiNode x1_5)), qf0, qf0, qf0, qn (.dec false), qn0, qf0, qf (.ix (Int.toNat 0) (c_GApiNode x1_5)), qf0, qf (.call [] (aB r1_14)), qf0, qn (.dec false)] ⟨[0, 23], [], [], [], [], [], []⟩ (aC hr1_1 (aC (not_t hx2) (aC (not_t hx2) (aC (ix_obx c_GApiNode hx1_5) (aC (not_t hx2) (aC (not_t hx2) (aC (not_t hx2) (aC (not_t hx2) (aC (not_t hx4) (aC (not_t hx4) (aC (ix_obx c_GApiNode hx1_5) (aC (not_t hx4) (aC (not_t hx4) (aC hr1_14 (aC (not_t hx4) (aC (not_t hx4) aN)))))))))))))))) (by kernel_rfl) ?_
      refine W_cond (!r1_14) (by kernel_rfl) (fun hb5 => ?_) (fun hb5 => ?_)
      · have hx6 : r1_14 = false := (bnot_t hb5)
        have h := ib_f h hx6
        refine W_seq ?_
        refine W_y (s' := LS.mk 79 [(2, aB false)] []) mixed [qn0] ⟨[2], [], [], [], [], [], []⟩ aN (by kernel_rfl) ?_
        refine W_ret ?_
        exact kr [] _ _ (by kernel_rfl) (Option.some.inj h)
      · have hx6 : r1_14 = true := (bnot_f hb5)
        have h := ib_t h hx6
        refine W_skip ?_
        refine W_seq ?_
        refine W_seq ?_
        refine W_y (s' := LS.mk 79 [(0, .t (.sl 6 (a0.map c_GApiNode))), (25, aI .i64 (a0.length : Int)), (26, aI .i64 0)] []) mixed [qn0, qn (.len a0.length), qn0] ⟨[0, 25, 26], [], [], [], [], [], []⟩ (aC (len_obx c_GApiNode a0) aN) (by kernel_rfl) ?_
        refine W_block ?_
        obtain ⟨n, h⟩ := fix_rec h
        exact W_conv (s' := LS.mk 79 [(0, .t (.sl 6 (a0.map c_GApiNode))), (25, aI .i64 (a0.length : Int)), (26, aI .i64 0)] []) ⟨[0, 25, 26], [], [], [], [], [], []⟩ (by kernel_rfl) (tree_May_l0_ok n a0 0 r_ _ kr (fun q1 hq1  s' h hf => W_pre hf (tree_May_j2_ok q1 r_ _ kr h)) h)
def RI_tree_Kids (a0 : (List GApiNode)) (a1 : Int) (r : (List Int)) : Prop := FnIO Try.prog 18 [.t (.sl 6 (a0.map c_GApiNode)), aI .i64 a1] [] (.ref 800000) [(800000, .row 3 1 (r.map c_i64))]
def R_tree_Kids (a0 : (List GApiNode)) (a1 : Int) (r : (List Int)) : Prop := FnP Try.prog 18 [.t (.sl 6 (a0.map c_GApiNode)), aI .i64 a1] (.t (.sl 1 (r.map c_i64)))
noncomputable def tree_Kids (a0 : (List GApiNode)) (a1 : Int) : Option (List Int) :=
  (if a1 < 0 then (some ([] : List Int)) else (if a1 ≥ (a0.length : Int) then (some ([] : List Int)) else ((tree_Right a0).bind fun (r1_10 : Bool) => (if r1_10 = true then ((tree_kids a0 a1).bind fun (r3_2 : (List Int)) => (some r3_2)) else (some ([] : List Int))))))
set_option maxRecDepth 100000 in
theorem tree_Kids_ok {a0 : (List GApiNode)} {a1 : Int} {r_ : (List Int)} (h : tree_Kids a0 a1 = some r_) : RI_tree_Kids a0 a1 r_ := by
  unfold tree_Kids at h
  refine fn_ioX (fn := Try.f18) (by kernel_rfl) (c := subC (bodyC Try.prog 18) []) (by kernel_rfl) (by kernel_rfl) (Nat.le_of_ble_eq_true (by kernel_rfl)) (Nat.le_of_ble_eq_true (by kernel_rfl)) ?_
  generalize hQ' : retIO Try.prog Try.f18 (.ref 800000) [(800000, .row 3 1 (r_.map c_i64))] = Q'
  have kr : ∀ (v : CV) (s : LS) (x : (List Int)), retIOX Try.prog v [.tmp 4] s = some ((.ref 800000), [(800000, .row 3 1 (x.map c_i64))]) → x = r_ → Q' .ret s.st := by subst hQ'; intro ns s x hx hq; subst hq; exact retIO_ret (fn := Try.f18) ns hx
  change W Try.prog _ (LS.mk 21 [(0, .t (.sl 6 (a0.map c_GApiNode))), (1, aI .i64 a1)] []).st Q'
  refine W_seq ?_
  refine W_y (s' := LS.mk 21 [(0, .t (.sl 6 (a0.map c_GApiNode))), (1, aI .i64 a1)] []) mixed [qn0] ⟨[0, 1], [], [], [], [], [], []⟩ aN (by kernel_rfl) ?_
  refine W_seq ?_
  refine W_seq ?_
  refine (Bool.eq_false_or_eq_true (decide (a1 < 0))).elim (fun hb1 => ?_) (fun hb1 => ?_)
  · have hx2 := hb1
    have h := if_t h hx2
    refine W_y (s' := LS.mk 21 [(0, .t (.sl 6 (a0.map c_GApiNode))), (1, aI .i64 a1), (17, aB true)] []) mixed [qn0, qn0, qn0, qt0, qt0, qt0, qt0, qn (.dec true), qn0, qn0, qn0, qn0, qn0] ⟨[0, 1, 17], [], [], [], [], [], []⟩ (aC hx2 (aC hx2 (aC hx2 (aC hx2 (aC hx2 aN))))) (by kernel_rfl) ?_
    refine W_cond true (by kernel_rfl) (fun _ => ?_) (fun hb => nomatch ((rfl : true = true).symm.trans hb))
    refine W_seq ?_
    refine W_y (s' := LS.mk 21 [(4, aNil)] []) mixed [qn0] ⟨[4], [], [], [], [], [], []⟩ aN (by kernel_rfl) ?_
    refine W_ret ?_
    exact kr ⟨[], [(0, 0, .row 800000)], [], [], [], [], [(800000, 3, 1)]⟩ _ ([] : List Int) (by kernel_rfl) (Option.some.inj h)
  · have hx2 := hb1
    have h := if_f h hx2
    refine (Bool.eq_false_or_eq_true (decide (a1 ≥ (a0.length : Int)))).elim (fun hb3 => ?_) (fun hb3 => ?_)
    · have hx4 := hb3
      have h := if_t h hx4
      refine W_y (s' := LS.mk 21 [(0, .t (.sl 6 (a0.map c_GApiNode))), (1, aI .i64 a1), (17, aB true)] []) mixed [qn0, qn0, qn0, qf0, qf0, qf (.len a0.length), qf0, qn (.dec false), qn0, qt0, qt0, qt0, qn (.dec true)] ⟨[0, 1, 17], [], [], [], [], [], []⟩ (aC hx2 (aC hx2 (aC hx2 (aC (len_obx c_GApiNode a0) (aC hx2 (aC hx2 (aC hx4 (aC hx4 (aC hx4 (aC hx4 aN)))))))))) (by kernel_rfl) ?_
      refine W_cond true (by kernel_rfl) (fun _ => ?_) (fun hb => nomatch ((rfl : true = true).symm.trans hb))
      refine W_seq ?_
      refine W_y (s' := LS.mk 21 [(4, aNil)] []) mixed [qn0] ⟨[4], [], [], [], [], [], []⟩ aN (by kernel_rfl) ?_
      refine W_ret ?_
      exact kr ⟨[], [(0, 0, .row 800000)], [], [], [], [], [(800000, 3, 1)]⟩ _ ([] : List Int) (by kernel_rfl) (Option.some.inj h)
    · have hx4 := hb3
      have h := if_f h hx4
      obtain ⟨r1_10, hr1_10, h⟩ := bind_ok h
      have hr1_10 := tree_Right_ok hr1_10
      refine W_y (s' := LS.mk 21 [(0, .t (.sl 6 (a0.map c_GApiNode))), (1, aI .i64 a1), (17, aB (!r1_10))] []) mixed [qn0, qn0, qn0, qf0, qf0, qf (.len a0.length), qf0, qn (.dec false), qn0, qf0, qf (.call [] (aB r1_10)), qf0, qn (.dec false)] ⟨[0, 1, 17], [], [], [], [], [], []⟩ (aC hx2 (aC hx2 (aC hx2 (aC (len_obx c_GApiNode a0) (aC hx2 (aC hx2 (aC hx4 (aC hx4 (aC hr1_10 (aC hx4 (aC hx4 aN))))))))))) (by kernel_rfl) ?_
      refine W_cond (!r1_10) (by kernel_rfl) (fun hb5 => ?_) (fun hb5 => ?_)
      · have hx6 : r1_10 = false := (bnot_t hb5)
        have h := ib_f h hx6
        refine W_seq ?_
        refine W_y (s' := LS.mk 21 [(4, aNil)] []) mixed [qn0] ⟨[4], [], [], [], [], [], []⟩ aN (by kernel_rfl) ?_
        refine W_ret ?_
        exact kr ⟨[], [(0, 0, .row 800000)], [], [], [], [], [(800000, 3, 1)]⟩ _ ([] : List Int) (by kernel_rfl) (Option.some.inj h)
      · have hx6 : r1_10 = true := (bnot_f hb5)
        have h := ib_t h hx6
        refine W_skip ?_
        refine W_seq ?_
        obtain ⟨r3_2, hr3_2, h⟩ := bind_ok h
        have hr3_2 := tree_kids_ok hr3_2
        refine W_y (s' := LS.mk 21 [(4, .ref 1004)] [(1004, some (.row 3 1 (r3_2.map c_i64)))]) mixed [qn0, qn0, qn (.io ⟨[], [], [], [], [], [], [(800000, 20)]⟩ (.ref 800000) [(800000, .row 3 1 (r3_2.map c_i64))]), qn0] ⟨[4], [], [], [], [(20, 1004)], [], []⟩ (aC hr3_2 aN) (by kernel_rfl) ?_
        refine W_ret ?_
        exact kr ⟨[], [], [], [], [(1004, 800000)], [], []⟩ _ r3_2 (by kernel_rfl) (Option.some.inj h)
theorem tree_Kids_okp {a0 : (List GApiNode)} {a1 : Int} {r_ : (List Int)} (h : tree_Kids a0 a1 = some r_) : R_tree_Kids a0 a1 r_ := fnio_pure (tree_Kids_ok h) (by kernel_rfl) (by kernel_rfl)
def RI_hindcastlaw05_small  (r : (List GApiNode)) : Prop := FnIO Try.prog 26 [] [] (.ref 800000) [(800000, .row 32 6 (r.map c_GApiNode))]
def R_hindcastlaw05_small  (r : (List GApiNode)) : Prop := FnP Try.prog 26 [] (.t (.sl 6 (r.map c_GApiNode)))
noncomputable def hindcastlaw05_small  : Option (List GApiNode) :=
  (some ([(GApiNode.mk 1 0 0 7 0 ([] : List UInt8)), (GApiNode.mk 4 0 0 6 0 ([109, 97, 105, 110] : List UInt8)), (GApiNode.mk 14 0 0 0 0 ([] : List UInt8)), (GApiNode.mk 6 0 0 4 0 ([] : List UInt8)), (GApiNode.mk 9 0 0 3 0 ([] : List UInt8)), (GApiNode.mk 24 0 0 0 1 ([] : List UInt8)), (GApiNode.mk 6 0 0 0 0 ([] : List UInt8)), (GApiNode.mk 6 0 0 0 0 ([] : List UInt8))] : List GApiNode))
set_option maxRecDepth 100000 in
theorem hindcastlaw05_small_ok  {r_ : (List GApiNode)} (h : hindcastlaw05_small  = some r_) : RI_hindcastlaw05_small  r_ := by
  unfold hindcastlaw05_small at h
  refine fn_ioX (fn := Try.f26) (by kernel_rfl) (c := subC (bodyC Try.prog 26) []) (by kernel_rfl) (by kernel_rfl) (Nat.le_of_ble_eq_true (by kernel_rfl)) (Nat.le_of_ble_eq_true (by kernel_rfl)) ?_
  generalize hQ' : retIO Try.prog Try.f26 (.ref 800000) [(800000, .row 32 6 (r_.map c_GApiNode))] = Q'
  have kr : ∀ (v : CV) (s : LS) (x : (List GApiNode)), retIOX Try.prog v [.tmp 0] s = some ((.ref 800000), [(800000, .row 32 6 (x.map c_GApiNode))]) → x = r_ → Q' .ret s.st := by subst hQ'; intro ns s x hx hq; subst hq; exact retIO_ret (fn := Try.f26) ns hx
  change W Try.prog _ (LS.mk 10 [] []).st Q'
  refine W_seq ?_
  refine W_y (s' := LS.mk 10 [] []) mixed [qn0] ⟨[], [], [], [], [], [], []⟩ aN (by kernel_rfl) ?_
  refine W_seq ?_
  refine W_y (s' := LS.mk 10 [(0, .ref 1000)] [(1000, some (.row 32 6 (([(GApiNode.mk 1 0 0 7 0 ([] : List UInt8)), (GApiNode.mk 4 0 0 6 0 ([109, 97, 105, 110] : List UInt8)), (GApiNode.mk 14 0 0 0 0 ([] : List UInt8)), (GApiNode.mk 6 0 0 4 0 ([] : List UInt8)), (GApiNode.mk 9 0 0 3 0 ([] : List UInt8)), (GApiNode.mk 24 0 0 0 1 ([] : List UInt8)), (GApiNode.mk 6 0 0 0 0 ([] : List UInt8)), (GApiNode.mk 6 0 0 0 0 ([] : List UInt8))] : List GApiNode).map c_GApiNode)))]) mixed [qn0, qn0, qn0, qn0, qn0, qn0, qn0, qn0, qn0, qn0] ⟨[0], [], [], [], [(9, 1000)], [], []⟩ aN (by kernel_rfl) ?_
  refine W_ret ?_
  exact kr ⟨[], [], [], [], [(1000, 800000)], [], []⟩ _ ([(GApiNode.mk 1 0 0 7 0 ([] : List UInt8)), (GApiNode.mk 4 0 0 6 0 ([109, 97, 105, 110] : List UInt8)), (GApiNode.mk 14 0 0 0 0 ([] : List UInt8)), (GApiNode.mk 6 0 0 4 0 ([] : List UInt8)), (GApiNode.mk 9 0 0 3 0 ([] : List UInt8)), (GApiNode.mk 24 0 0 0 1 ([] : List UInt8)), (GApiNode.mk 6 0 0 0 0 ([] : List UInt8)), (GApiNode.mk 6 0 0 0 0 ([] : List UInt8))] : List GApiNode) (by kernel_rfl) (Option.some.inj h)
theorem hindcastlaw05_small_okp  {r_ : (List GApiNode)} (h : hindcastlaw05_small  = some r_) : R_hindcastlaw05_small  r_ := fnio_pure (hindcastlaw05_small_ok h) (by kernel_rfl) (by kernel_rfl)
def R_hindcastlaw05_awake  (r : Bool) : Prop := FnP Try.prog 9 [] (aB r)
noncomputable def hindcastlaw05_awake  : Option Bool :=
  ((hindcastlaw05_small).bind fun (r1_0 : (List GApiNode)) => ((tree_Kids r1_0 4).bind fun (r1_1 : (List Int)) => ((tree_May ([(GApiNode.mk 1 0 0 0 0 ([] : List UInt8))] : List GApiNode)).bind fun (r2_2 : Bool) => (if r2_2 = true then ((hindcastlaw05_small).bind fun (r2_4 : (List GApiNode)) => ((tree_May r2_4).bind fun (r2_5 : Bool) => (if r2_5 = true then (if (r1_1.length : Int) = 3 then ((getI r1_1 0).bind fun (x2_14 : Int) => (if x2_14 = 5 then ((getI r1_1 1).bind fun (x2_20 : Int) => (if x2_20 = 6 then ((getI r1_1 2).bind fun (x2_26 : Int) => (if x2_26 = 7 then ((tree_Name ([97, 95, 49] : List UInt8)).bind fun (r2_31 : Bool) => (if r2_31 = true then ((tree_Name ([102, 110] : List UInt8)).bind fun (r2_34 : Bool) => (some (!r2_34))) else (some false))) else (some false))) else (some false))) else (some false))) else (some false)) else (some false)))) else (some false)))))
set_option maxRecDepth 100000 in
theorem hindcastlaw05_awake_ok  {r_ : Bool} (h : hindcastlaw05_awake  = some r_) : R_hindcastlaw05_awake  r_ := by
  unfold hindcastlaw05_awake at h
  refine fn_pureX (fn := Try.f9) (by kernel_rfl) (c := subC (bodyC Try.prog 9) []) (by kernel_rfl) (by kernel_rfl) (Nat.le_of_ble_eq_true (by kernel_rfl)) ?_
  generalize hQ' : retQ Try.prog Try.f9 (aB r_) = Q'
  have kr : ∀ (ns : List (Nat × Nat × Nat)) (s : LS) (x : Bool), retX Try.prog ns [.tmp 0] s = some (aB x) → x = r_ → Q' .ret s.st := by subst hQ'; intro ns s x hx hq; subst hq; exact ret_ok (fn := Try.f9) ns hx
  change W Try.prog _ (LS.mk 41 [] []).st Q'
  refine W_seq ?_
  refine W_y (s' := LS.mk 41 [] []) mixed [qn0] ⟨[], [], [], [], [], [], []⟩ aN (by kernel_rfl) ?_
  refine W_seq ?_
  obtain ⟨r1_0, hr1_0, h⟩ := bind_ok h
  have hr1_0 := hindcastlaw05_small_ok hr1_0
  obtain ⟨r1_1, hr1_1, h⟩ := bind_ok h
  have hr1_1 := tree_Kids_okp hr1_1
  refine W_y (s' := LS.mk 41 [(1, .t (.sl 1 (r1_1.map c_i64)))] []) mixed [qn (.io ⟨[], [], [], [], [], [], [(800000, 2)]⟩ (.ref 800000) [(800000, .row 32 6 (r1_0.map c_GApiNode))]), (none, [2], .call [] (.t (.sl 1 (r1_1.map c_i64)))), qn0] ⟨[1], [], [], [], [], [], []⟩ (aC hr1_0 (aC hr1_1 aN)) (by kernel_rfl) ?_
  refine W_seq ?_
  obtain ⟨r2_2, hr2_2, h⟩ := bind_ok h
  have hr2_2 := tree_May_ok hr2_2
  refine (Bool.eq_false_or_eq_true r2_2).elim (fun hb1 => ?_) (fun hb1 => ?_)
  · have hx2 := hb1
    have h := ib_t h hx2
    obtain ⟨r2_4, hr2_4, h⟩ := bind_ok h
    have hr2_4 := hindcastlaw05_small_ok hr2_4
    obtain ⟨r2_5, hr2_5, h⟩ := bind_ok h
    have hr2_5 := tree_May_ok hr2_5
    refine (Bool.eq_false_or_eq_true r2_5).elim (fun hb3 => ?_) (fun hb3 => ?_)
    · have hx4 := hb3
      have h := ib_t h hx4
      refine (Bool.eq_false_or_eq_true (decide ((r1_1.length : Int) = 3))).elim (fun hb5 => ?_) (fun hb5 => ?_)
      · have hx6 := hb5
        have h := if_t h hx6
        obtain ⟨x2_14, hx2_14, h⟩ := bind_ok h
        refine (Bool.eq_false_or_eq_true (decide (x2_14 = 5))).elim (fun hb7 => ?_) (fun hb7 => ?_)
        · have hx8 := hb7
          have h := if_t h hx8
          obtain ⟨x2_20, hx2_20, h⟩ := bind_ok h
          refine (Bool.eq_false_or_eq_true (decide (x2_20 = 6))).elim (fun hb9 => ?_) (fun hb9 => ?_)
          · have hx10 := hb9
            have h := if_t h hx10
            obtain ⟨x2_26, hx2_26, h⟩ := bind_ok h
            refine (Bool.eq_false_or_eq_true (decide (x2_26 = 7))).elim (fun hb11 => ?_) (fun hb11 => ?_)
            · have hx12 := hb11
              have h := if_t h hx12
              obtain ⟨r2_31, hr2_31, h⟩ := bind_ok h
              have hr2_31 := tree_Name_ok hr2_31
              refine (Bool.eq_false_or_eq_true r2_31).elim (fun hb13 => ?_) (fun hb13 => ?_)
              · have hx14 := hb13
                have h := ib_t h hx14
                obtain ⟨r2_34, hr2_34, h⟩ := bind_ok h
                have hr2_34 := tree_Name_ok hr2_34
                refine W_y (s' := LS.mk 41 [(0, aB (!r2_34))] []) mixed [qn0, qn0, qn (.call [] (aB r2_2)), qn0, qt (.io ⟨[], [], [], [], [], [], [(800000, 8)]⟩ (.ref 800000) [(800000, .row 32 6 (r2_4.map c_GApiNode))]), qt (.call [] (aB r2_5)), qn (.dec true), qn0, qt0, qt (.len r1_1.length), qt0, qn (.dec true), qn0, qt0, qt (.ix (Int.toNat 0) (c_i64 x2_14)), qt0, qt0, qn (.dec true), qn0, qt0, qt (.ix (Int.toNat 1) (c_i64 x2_20)), qt0, qt0, qn (.dec true), qn0, qt0, qt (.ix (Int.toNat 2) (c_i64 x2_26)), qt0, qt0, qn (.dec true), qn0, qt (.call [] (aB r2_31)), qn (.dec true), qn0, qt (.call [] (aB r2_34)), qt0, qn (.dec true), qn0] ⟨[0], [], [], [], [], [], []⟩ (aC hr2_2 (aC hx2 (aC hr2_4 (aC hx2 (aC hr2_5 (aC hx2 (aC hx4 (aC hx4 (aC (len_obx c_i64 r1_1) (aC hx4 (aC hx4 (aC hx6 (aC hx6 (aC (ix_obx c_i64 hx2_14) (aC hx6 (aC hx6 (aC hx6 (aC hx8 (aC hx8 (aC (ix_obx c_i64 hx2_20) (aC hx8 (aC hx8 (aC hx8 (aC hx10 (aC hx10 (aC (ix_obx c_i64 hx2_26) (aC hx10 (aC hx10 (aC hx10 (aC hx12 (aC hr2_31 (aC hx12 (aC hx14 (aC hr2_34 (aC hx14 (aC hx14 aN)))))))))))))))))))))))))))))))))))) (by kernel_rfl) ?_
                refine W_ret ?_
                exact kr [] _ _ (by kernel_rfl) (Option.some.inj h)
              · have hx14 := hb13
                have h := ib_f h hx14
                refine W_y (s' := LS.mk 41 [(0, aB false)] []) mixed [qn0, qn0, qn (.call [] (aB r2_2)), qn0, qt (.io ⟨[], [], [], [], [], [], [(800000, 8)]⟩ (.ref 800000) [(800000, .row 32 6 (r2_4.map c_GApiNode))]), qt (.call [] (aB r2_5)), qn (.dec true), qn0, qt0, qt (.len r1_1.length), qt0, qn (.dec true), qn0, qt0, qt (.ix (Int.toNat 0) (c_i64 x2_14)), qt0, qt0, qn (.dec true), qn0, qt0, qt (.ix (Int.toNat 1) (c_i64 x2_20)), qt0, qt0, qn (.dec true), qn0, qt0, qt (.ix (Int.toNat 2) (c_i64 x2_26)), qt0, qt0, qn (.dec true), qn0, qt (.call [] (aB r2_31)), qn (.dec true), qn0, qf0, qf0, qn (.dec false), qn0] ⟨[0], [], [], [], [], [], []⟩ (aC hr2_2 (aC hx2 (aC hr2_4 (aC hx2 (aC hr2_5 (aC hx2 (aC hx4 (aC hx4 (aC (len_obx c_i64 r1_1) (aC hx4 (aC hx4 (aC hx6 (aC hx6 (aC (ix_obx c_i64 hx2_14) (aC hx6 (aC hx6 (aC hx6 (aC hx8 (aC hx8 (aC (ix_obx c_i64 hx2_20) (aC hx8 (aC hx8 (aC hx8 (aC hx10 (aC hx10 (aC (ix_obx c_i64 hx2_26) (aC hx10 (aC hx10 (aC hx10 (aC hx12 (aC hr2_31 (aC hx12 (aC hx14 (aC hx14 (aC hx14 aN))))))))))))))))))))))))))))))))))) (by kernel_rfl) ?_
                refine W_ret ?_
                exact kr [] _ _ (by kernel_rfl) (Option.some.inj h)
            · have hx12 := hb11
              have h := if_f h hx12
              refine W_y (s' := LS.mk 41 [(0, aB false)] []) mixed [qn0, qn0, qn (.call [] (aB r2_2)), qn0, qt (.io ⟨[], [], [], [], [], [], [(800000, 8)]⟩ (.ref 800000) [(800000, .row 32 6 (r2_4.map c_GApiNode))]), qt (.call [] (aB r2_5)), qn (.dec true), qn0, qt0, qt (.len r1_1.length), qt0, qn (.dec true), qn0, qt0, qt (.ix (Int.toNat 0) (c_i64 x2_14)), qt0, qt0, qn (.dec true), qn0, qt0, qt (.ix (Int.toNat 1) (c_i64 x2_20)), qt0, qt0, qn (.dec true), qn0, qt0, qt (.ix (Int.toNat 2) (c_i64 x2_26)), qt0, qt0, qn (.dec true), qn0, qf0, qn (.dec false), qn0, qn0, qn0, qn0, qn0] ⟨[0], [], [], [], [], [], []⟩ (aC hr2_2 (aC hx2 (aC hr2_4 (aC hx2 (aC hr2_5 (aC hx2 (aC hx4 (aC hx4 (aC (len_obx c_i64 r1_1) (aC hx4 (aC hx4 (aC hx6 (aC hx6 (aC (ix_obx c_i64 hx2_14) (aC hx6 (aC hx6 (aC hx6 (aC hx8 (aC hx8 (aC (ix_obx c_i64 hx2_20) (aC hx8 (aC hx8 (aC hx8 (aC hx10 (aC hx10 (aC (ix_obx c_i64 hx2_26) (aC hx10 (aC hx10 (aC hx10 (aC hx12 (aC hx12 aN))))))))))))))))))))))))))))))) (by kernel_rfl) ?_
              refine W_ret ?_
              exact kr [] _ _ (by kernel_rfl) (Option.some.inj h)
          · have hx10 := hb9
            have h := if_f h hx10
            refine W_y (s' := LS.mk 41 [(0, aB false)] []) mixed [qn0, qn0, qn (.call [] (aB r2_2)), qn0, qt (.io ⟨[], [], [], [], [], [], [(800000, 8)]⟩ (.ref 800000) [(800000, .row 32 6 (r2_4.map c_GApiNode))]), qt (.call [] (aB r2_5)), qn (.dec true), qn0, qt0, qt (.len r1_1.length), qt0, qn (.dec true), qn0, qt0, qt (.ix (Int.toNat 0) (c_i64 x2_14)), qt0, qt0, qn (.dec true), qn0, qt0, qt (.ix (Int.toNat 1) (c_i64 x2_20)), qt0, qt0, qn (.dec true), qn0, qf0, qf0, qf0, qf0, qn (.dec false), qn0, qn0, qn0, qn0, qn0, qn0, qn0, qn0] ⟨[0], [], [], [], [], [], []⟩ (aC hr2_2 (aC hx2 (aC hr2_4 (aC hx2 (aC hr2_5 (aC hx2 (aC hx4 (aC hx4 (aC (len_obx c_i64 r1_1) (aC hx4 (aC hx4 (aC hx6 (aC hx6 (aC (ix_obx c_i64 hx2_14) (aC hx6 (aC hx6 (aC hx6 (aC hx8 (aC hx8 (aC (ix_obx c_i64 hx2_20) (aC hx8 (aC hx8 (aC hx8 (aC hx10 (aC hx10 (aC hx10 (aC hx10 (aC hx10 aN)))))))))))))))))))))))))))) (by kernel_rfl) ?_
            refine W_ret ?_
            exact kr [] _ _ (by kernel_rfl) (Option.some.inj h)
        · have hx8 := hb7
          have h := if_f h hx8
          refine W_y (s' := LS.mk 41 [(0, aB false)] []) mixed [qn0, qn0, qn (.call [] (aB r2_2)), qn0, qt (.io ⟨[], [], [], [], [], [], [(800000, 8)]⟩ (.ref 800000) [(800000, .row 32 6 (r2_4.map c_GApiNode))]), qt (.call [] (aB r2_5)), qn (.dec true), qn0, qt0, qt (.len r1_1.length), qt0, qn (.dec true), qn0, qt0, qt (.ix (Int.toNat 0) (c_i64 x2_14)), qt0, qt0, qn (.dec true), qn0, qf0, qf0, qf0, qf0, qn (.dec false), qn0, qn0, qn0, qn0, qn0, qn0, qn0, qn0, qn0, qn0, qn0, qn0, qn0, qn0] ⟨[0], [], [], [], [], [], []⟩ (aC hr2_2 (aC hx2 (aC hr2_4 (aC hx2 (aC hr2_5 (aC hx2 (aC hx4 (aC hx4 (aC (len_obx c_i64 r1_1) (aC hx4 (aC hx4 (aC hx6 (aC hx6 (aC (ix_obx c_i64 hx2_14) (aC hx6 (aC hx6 (aC hx6 (aC hx8 (aC hx8 (aC hx8 (aC hx8 (aC hx8 aN)))))))))))))))))))))) (by kernel_rfl) ?_
          refine W_ret ?_
          exact kr [] _ _ (by kernel_rfl) (Option.some.inj h)
      · have hx6 := hb5
        have h := if_f h hx6
        refine W_y (s' := LS.mk 41 [(0, aB false)] []) mixed [qn0, qn0, qn (.call [] (aB r2_2)), qn0, qt (.io ⟨[], [], [], [], [], [], [(800000, 8)]⟩ (.ref 800000) [(800000, .row 32 6 (r2_4.map c_GApiNode))]), qt (.call [] (aB r2_5)), qn (.dec true), qn0, qt0, qt (.len r1_1.length), qt0, qn (.dec true), qn0, qf0, qf0, qf0, qf0, qn (.dec false), qn0, qn0, qn0, qn0, qn0, qn0, qn0, qn0, qn0, qn0, qn0, qn0, qn0, qn0, qn0, qn0, qn0, qn0, qn0, qn0] ⟨[0], [], [], [], [], [], []⟩ (aC hr2_2 (aC hx2 (aC hr2_4 (aC hx2 (aC hr2_5 (aC hx2 (aC hx4 (aC hx4 (aC (len_obx c_i64 r1_1) (aC hx4 (aC hx4 (aC hx6 (aC hx6 (aC hx6 (aC hx6 (aC hx6 aN)))))))))))))))) (by kernel_rfl) ?_
        refine W_ret ?_
        exact kr [] _ _ (by kernel_rfl) (Option.some.inj h)
    · have hx4 := hb3
      have h := ib_f h hx4
      refine W_y (s' := LS.mk 41 [(0, aB false)] []) mixed [qn0, qn0, qn (.call [] (aB r2_2)), qn0, qt (.io ⟨[], [], [], [], [], [], [(800000, 8)]⟩ (.ref 800000) [(800000, .row 32 6 (r2_4.map c_GApiNode))]), qt (.call [] (aB r2_5)), qn (.dec true), qn0, qf0, qf0, qf0, qn (.dec false), qn0, qn0, qn0, qn0, qn0, qn0, qn0, qn0, qn0, qn0, qn0, qn0, qn0, qn0, qn0, qn0, qn0, qn0, qn0, qn0, qn0, qn0, qn0, qn0, qn0, qn0] ⟨[0], [], [], [], [], [], []⟩ (aC hr2_2 (aC hx2 (aC hr2_4 (aC hx2 (aC hr2_5 (aC hx2 (aC hx4 (aC hx4 (aC hx4 (aC hx4 aN)))))))))) (by kernel_rfl) ?_
      refine W_ret ?_
      exact kr [] _ _ (by kernel_rfl) (Option.some.inj h)
  · have hx2 := hb1
    have h := ib_f h hx2
    refine W_y (s' := LS.mk 41 [(0, aB false)] []) mixed [qn0, qn0, qn (.call [] (aB r2_2)), qn0, qf0, qf0, qn (.dec false), qn0, qn0, qn0, qn0, qn0, qn0, qn0, qn0, qn0, qn0, qn0, qn0, qn0, qn0, qn0, qn0, qn0, qn0, qn0, qn0, qn0, qn0, qn0, qn0, qn0, qn0, qn0, qn0, qn0, qn0, qn0] ⟨[0], [], [], [], [], [], []⟩ (aC hr2_2 (aC hx2 (aC hx2 (aC hx2 aN)))) (by kernel_rfl) ?_
    refine W_ret ?_
    exact kr [] _ _ (by kernel_rfl) (Option.some.inj h)
def R_hindcastref05_end (a0 : (List GApiNode)) (a1 : Int) (r : Int) : Prop := FnP Try.prog 27 [.t (.sl 6 (a0.map c_GApiNode)), aI .i64 a1] (aI .i64 r)
inductive hindcastref05_end_C where
  | l0 (a0 : (List GApiNode)) (a1 : Int) (x1_7 : GApiNode) (v0_6_0 : Int)
  | j1 (a1 : Int) (x1_7 : GApiNode) (v0_6_0 : Int)
  | run (a0 : (List GApiNode)) (a1 : Int)
abbrev hindcastref05_end_C_T : hindcastref05_end_C → Type := fun _ => Int
noncomputable def hindcastref05_end_l0_b (g : (i : hindcastref05_end_C) → Option (hindcastref05_end_C_T i)) (a0 : (List GApiNode)) (a1 : Int) (x1_7 : GApiNode) (v0_6_0 : Int) : Option Int :=
  (if v0_6_0 ≥ 0 then (if v0_6_0 < (w64 ((w64 (a1 + 1)) + x1_7.Size)) then ((g (.run a0 v0_6_0) : Option Int).bind fun (r6_2 : Int) => g (.l0 a0 a1 x1_7 r6_2)) else g (.j1 a1 x1_7 v0_6_0)) else g (.j1 a1 x1_7 v0_6_0))
noncomputable def hindcastref05_end_j1_b (g : (i : hindcastref05_end_C) → Option (hindcastref05_end_C_T i)) (a1 : Int) (x1_7 : GApiNode) (v0_6_0 : Int) : Option Int :=
  (if v0_6_0 = (w64 ((w64 (a1 + 1)) + x1_7.Size)) then (some (w64 ((w64 (a1 + 1)) + x1_7.Size))) else (some (-1)))
noncomputable def hindcastref05_end_b (g : (i : hindcastref05_end_C) → Option (hindcastref05_end_C_T i)) (a0 : (List GApiNode)) (a1 : Int) : Option Int :=
  (if a1 ≥ (a0.length : Int) then (some (-1)) else ((getI a0 a1).bind fun (x1_7 : GApiNode) => (if x1_7.Size < 0 then (some (-1)) else (if x1_7.Size > (w64 ((w64 ((a0.length : Int) - 1)) - a1)) then (some (-1)) else g (.l0 a0 a1 x1_7 (w64 (a1 + 1)))))))
noncomputable def hindcastref05_end_B (g : (i : hindcastref05_end_C) → Option (hindcastref05_end_C_T i)) : (i : hindcastref05_end_C) → Option (hindcastref05_end_C_T i)
  | .l0 a0 a1 x1_7 v0_6_0 => hindcastref05_end_l0_b g a0 a1 x1_7 v0_6_0
  | .j1 a1 x1_7 v0_6_0 => hindcastref05_end_j1_b g a1 x1_7 v0_6_0
  | .run a0 a1 => hindcastref05_end_b g a0 a1
theorem hindcastref05_end_B_fin (i : hindcastref05_end_C) : Fin1 (fun g => hindcastref05_end_B g i) := by
  cases i with
  | l0 a0 a1 x1_7 v0_6_0 => show Fin1 (fun g => hindcastref05_end_l0_b g a0 a1 x1_7 v0_6_0); unfold hindcastref05_end_l0_b; repeat (first | refine fin_bind ?_ (fun _ => ?_) | refine fin_ite ?_ ?_ | exact fin_ask _ | exact fin_const _)
  | j1 a1 x1_7 v0_6_0 => show Fin1 (fun g => hindcastref05_end_j1_b g a1 x1_7 v0_6_0); unfold hindcastref05_end_j1_b; repeat (first | refine fin_bind ?_ (fun _ => ?_) | refine fin_ite ?_ ?_ | exact fin_ask _ | exact fin_const _)
  | run a0 a1 => show Fin1 (fun g => hindcastref05_end_b g a0 a1); unfold hindcastref05_end_b; repeat (first | refine fin_bind ?_ (fun _ => ?_) | refine fin_ite ?_ ?_ | exact fin_ask _ | exact fin_const _)
noncomputable def hindcastref05_end_l0 (a0 : (List GApiNode)) (a1 : Int) (x1_7 : GApiNode) (v0_6_0 : Int) : Option Int := fixD hindcastref05_end_B (.l0 a0 a1 x1_7 v0_6_0)
noncomputable def hindcastref05_end_j1 (a1 : Int) (x1_7 : GApiNode) (v0_6_0 : Int) : Option Int := fixD hindcastref05_end_B (.j1 a1 x1_7 v0_6_0)
noncomputable def hindcastref05_end (a0 : (List GApiNode)) (a1 : Int) : Option Int := fixD hindcastref05_end_B (.run a0 a1)
theorem hindcastref05_end_l0_eq (a0 : (List GApiNode)) (a1 : Int) (x1_7 : GApiNode) (v0_6_0 : Int) : hindcastref05_end_l0 a0 a1 x1_7 v0_6_0 =
  (if v0_6_0 ≥ 0 then (if v0_6_0 < (w64 ((w64 (a1 + 1)) + x1_7.Size)) then ((hindcastref05_end a0 v0_6_0 : Option Int).bind fun (r6_2 : Int) => hindcastref05_end_l0 a0 a1 x1_7 r6_2) else hindcastref05_end_j1 a1 x1_7 v0_6_0) else hindcastref05_end_j1 a1 x1_7 v0_6_0) := fix_eq hindcastref05_end_B_fin _
theorem hindcastref05_end_j1_eq (a1 : Int) (x1_7 : GApiNode) (v0_6_0 : Int) : hindcastref05_end_j1 a1 x1_7 v0_6_0 =
  (if v0_6_0 = (w64 ((w64 (a1 + 1)) + x1_7.Size)) then (some (w64 ((w64 (a1 + 1)) + x1_7.Size))) else (some (-1))) := fix_eq hindcastref05_end_B_fin _
theorem hindcastref05_end_eq (a0 : (List GApiNode)) (a1 : Int) : hindcastref05_end a0 a1 =
  (if a1 ≥ (a0.length : Int) then (some (-1)) else ((getI a0 a1).bind fun (x1_7 : GApiNode) => (if x1_7.Size < 0 then (some (-1)) else (if x1_7.Size > (w64 ((w64 ((a0.length : Int) - 1)) - a1)) then (some (-1)) else hindcastref05_end_l0 a0 a1 x1_7 (w64 (a1 + 1)))))) := fix_eq hindcastref05_end_B_fin _
set_option maxRecDepth 100000 in
theorem hindcastref05_end_l0_ok (n : Nat) (hrec_hindcastref05_end : ∀ q, q < n → ∀ (a0 : (List GApiNode)) (a1 : Int) (r : Int), recN hindcastref05_end_B q (.run a0 a1) = some r → R_hindcastref05_end a0 a1 r) (a0 : (List GApiNode)) (a1 : Int) (x1_7 : GApiNode) (v0_6_0 : Int) (r_ : Int) (Q' : Exit → St → Prop) (kr : ∀ (ns : List (Nat × Nat × Nat)) (s : LS) (x : Int), retX Try.prog ns [.tmp 4] s = some (aI .i64 x) → x = r_ → Q' .ret s.st) (k_x_0 : ∀ (q : Nat), q < n → ∀ (v0_6_0 : Int) (s' : LS), recN hindcastref05_end_B q (.j1 a1 x1_7 v0_6_0) = some r_ → Fits s'.st (LS.mk 56 [(5, aI .i64 (w64 ((w64 (a1 + 1)) + x1_7.Size))), (6, aI .i64 v0_6_0)] []).st → Q' (.exit 0) s'.st) (h : recN hindcastref05_end_B n (.l0 a0 a1 x1_7 v0_6_0) = some r_) : W Try.prog (subC (bodyC Try.prog 27) [1, 1, 1, 1, 0, 0]) (LS.mk 56 [(0, .t (.sl 6 (a0.map c_GApiNode))), (5, aI .i64 (w64 ((w64 (a1 + 1)) + x1_7.Size))), (6, aI .i64 v0_6_0)] []).st Q' := by
  refine W_fix (σ := Int) (fun m x_ => m ≤ n ∧ recN hindcastref05_end_B m (.l0 a0 a1 x1_7 x_) = some r_) (fun x_ => LS.mk 56 [(0, .t (.sl 6 (a0.map c_GApiNode))), (5, aI .i64 (w64 ((w64 (a1 + 1)) + x1_7.Size))), (6, aI .i64 x_)] []) (fun x hx => by cases hx.2) (fun _ _ => rfl) ?_ n (v0_6_0) ⟨Nat.le_refl _, h⟩
  clear h
  rintro m v0_6_0 ⟨hlt, h⟩
  replace h : hindcastref05_end_l0_b (recN hindcastref05_end_B m) a0 a1 x1_7 v0_6_0 = some r_ := h
  unfold hindcastref05_end_l0_b at h
  refine W_seq ?_
  refine W_seq ?_
  refine (Bool.eq_false_or_eq_true (decide (v0_6_0 ≥ 0))).elim (fun hb1001 => ?_) (fun hb1001 => ?_)
  · have hx1002 := hb1001
    have h := if_t h hx1002
    refine W_y (s' := LS.mk 56 [(0, .t (.sl 6 (a0.map c_GApiNode))), (5, aI .i64 (w64 ((w64 (a1 + 1)) + x1_7.Size))), (6, aI .i64 v0_6_0), (48, aB (decide (v0_6_0 < (w64 ((w64 (a1 + 1)) + x1_7.Size)))))] []) mixed [qn0, qn0, qn0, qt0, qt0, qt0, qn (.dec true)] ⟨[0, 5, 6, 48], [], [], [], [], [], []⟩ (aC hx1002 (aC hx1002 (aC hx1002 (aC hx1002 aN)))) (by kernel_rfl) ?_
    refine W_cond (decide (v0_6_0 < (w64 ((w64 (a1 + 1)) + x1_7.Size)))) (by kernel_rfl) (fun hb1003 => ?_) (fun hb1003 => ?_)
    · have hx1004 := hb1003
      have h := if_t h hx1004
      refine W_skip ?_
      refine W_block ?_
      obtain ⟨r6_2, hr6_2, h⟩ := bind_ok h
      have hr6_2 := hrec_hindcastref05_end m hlt _ _ _ hr6_2
      refine W_y (s' := LS.mk 56 [(0, .t (.sl 6 (a0.map c_GApiNode))), (5, aI .i64 (w64 ((w64 (a1 + 1)) + x1_7.Size))), (6, aI .i64 r6_2)] []) mixed [qn0, qn0, qn (.call [] (aI .i64 r6_2)), qn0] ⟨[0, 5, 6], [], [], [], [], [], []⟩ (aC hr6_2 aN) (by kernel_rfl) ?_
      exact ⟨m, (r6_2), Nat.le_refl _, ⟨Nat.le_of_lt hlt, h⟩, convX_fits (v := ⟨[0, 5, 6], [], [], [], [], [], []⟩) (s' := LS.mk 56 [(0, .t (.sl 6 (a0.map c_GApiNode))), (5, aI .i64 (w64 ((w64 (a1 + 1)) + x1_7.Size))), (6, aI .i64 r6_2)] []) (by kernel_rfl)⟩
    · have hx1004 := hb1003
      have h := if_f h hx1004
      refine W_exit ?_
      exact k_x_0 m hlt v0_6_0 _ h (convX_fits (v := ⟨[5, 6], [], [], [], [], [], []⟩) (s' := LS.mk 56 [(5, aI .i64 (w64 ((w64 (a1 + 1)) + x1_7.Size))), (6, aI .i64 v0_6_0)] []) (by kernel_rfl))
  · have hx1002 := hb1001
    have h := if_f h hx1002
    refine W_y (s' := LS.mk 56 [(0, .t (.sl 6 (a0.map c_GApiNode))), (5, aI .i64 (w64 ((w64 (a1 + 1)) + x1_7.Size))), (6, aI .i64 v0_6_0), (48, aB false)] []) mixed [qn0, qn0, qn0, qf0, qf0, qf0, qn (.dec false)] ⟨[0, 5, 6, 48], [], [], [], [], [], []⟩ (aC hx1002 (aC hx1002 (aC hx1002 (aC hx1002 aN)))) (by kernel_rfl) ?_
    refine W_cond false (by kernel_rfl) (fun hb => nomatch ((rfl : false = false).symm.trans hb)) (fun _ => ?_)
    refine W_exit ?_
    exact k_x_0 m hlt v0_6_0 _ h (convX_fits (v := ⟨[5, 6], [], [], [], [], [], []⟩) (s' := LS.mk 56 [(5, aI .i64 (w64 ((w64 (a1 + 1)) + x1_7.Size))), (6, aI .i64 v0_6_0)] []) (by kernel_rfl))
set_option maxRecDepth 100000 in
theorem hindcastref05_end_j1_ok (n : Nat) (hrec_hindcastref05_end : ∀ q, q < n → ∀ (a0 : (List GApiNode)) (a1 : Int) (r : Int), recN hindcastref05_end_B q (.run a0 a1) = some r → R_hindcastref05_end a0 a1 r) (a1 : Int) (x1_7 : GApiNode) (v0_6_0 : Int) (r_ : Int) (Q' : Exit → St → Prop) (kr : ∀ (ns : List (Nat × Nat × Nat)) (s : LS) (x : Int), retX Try.prog ns [.tmp 4] s = some (aI .i64 x) → x = r_ → Q' .ret s.st)  (h : recN hindcastref05_end_B n (.j1 a1 x1_7 v0_6_0) = some r_) : W Try.prog (subC (bodyC Try.prog 27) [1, 1, 1, 1, 1]) (LS.mk 56 [(5, aI .i64 (w64 ((w64 (a1 + 1)) + x1_7.Size))), (6, aI .i64 v0_6_0)] []).st Q' := by
  cases n with
  | zero => cases h
  | succ m =>
  have hlt : m < m + 1 := Nat.lt_succ_self m
  replace h : hindcastref05_end_j1_b (recN hindcastref05_end_B m) a1 x1_7 v0_6_0 = some r_ := h
  unfold hindcastref05_end_j1_b at h
  refine W_seq ?_
  refine W_seq ?_
  refine W_y (s' := LS.mk 56 [(5, aI .i64 (w64 ((w64 (a1 + 1)) + x1_7.Size))), (54, aB (!(decide (v0_6_0 = (w64 ((w64 (a1 + 1)) + x1_7.Size))))))] []) mixed [qn0, qn0, qn0] ⟨[5, 54], [], [], [], [], [], []⟩ aN (by kernel_rfl) ?_
  refine W_cond (!(decide (v0_6_0 = (w64 ((w64 (a1 + 1)) + x1_7.Size))))) (by kernel_rfl) (fun hb2001 => ?_) (fun hb2001 => ?_)
  · have hx2002 : (decide (v0_6_0 = (w64 ((w64 (a1 + 1)) + x1_7.Size)))) = false := (bnot_t hb2001)
    have h := if_f h hx2002
    refine W_seq ?_
    refine W_y (s' := LS.mk 56 [(4, aI .i64 (-1))] []) mixed [qn0] ⟨[4], [], [], [], [], [], []⟩ aN (by kernel_rfl) ?_
    refine W_ret ?_
    exact kr [] _ _ (by kernel_rfl) (Option.some.inj h)
  · have hx2002 : (decide (v0_6_0 = (w64 ((w64 (a1 + 1)) + x1_7.Size)))) = true := (bnot_f hb2001)
    have h := if_t h hx2002
    refine W_skip ?_
    refine W_seq ?_
    refine W_y (s' := LS.mk 56 [(4, aI .i64 (w64 ((w64 (a1 + 1)) + x1_7.Size)))] []) mixed [qn0, qn0] ⟨[4], [], [], [], [], [], []⟩ aN (by kernel_rfl) ?_
    refine W_ret ?_
    exact kr [] _ _ (by kernel_rfl) (Option.some.inj h)
set_option maxRecDepth 100000 in
theorem hindcastref05_end_main (n : Nat) (hrec_hindcastref05_end : ∀ q, q < n → ∀ (a0 : (List GApiNode)) (a1 : Int) (r : Int), recN hindcastref05_end_B q (.run a0 a1) = some r → R_hindcastref05_end a0 a1 r) (a0 : (List GApiNode)) (a1 : Int) (r_ : Int) (h : recN hindcastref05_end_B n (.run a0 a1) = some r_) : R_hindcastref05_end a0 a1 r_ := by
  cases n with
  | zero => cases h
  | succ m =>
  have hlt : m < m + 1 := Nat.lt_succ_self m
  replace h : hindcastref05_end_b (recN hindcastref05_end_B m) a0 a1 = some r_ := h
  unfold hindcastref05_end_b at h
  refine fn_pureX (fn := Try.f27) (by kernel_rfl) (c := subC (bodyC Try.prog 27) []) (by kernel_rfl) (by kernel_rfl) (Nat.le_of_ble_eq_true (by kernel_rfl)) ?_
  generalize hQ' : retQ Try.prog Try.f27 (aI .i64 r_) = Q'
  have kr : ∀ (ns : List (Nat × Nat × Nat)) (s : LS) (x : Int), retX Try.prog ns [.tmp 4] s = some (aI .i64 x) → x = r_ → Q' .ret s.st := by subst hQ'; intro ns s x hx hq; subst hq; exact ret_ok (fn := Try.f27) ns hx
  change W Try.prog _ (LS.mk 56 [(0, .t (.sl 6 (a0.map c_GApiNode))), (1, aI .i64 a1)] []).st Q'
  refine W_seq ?_
  refine W_y (s' := LS.mk 56 [(0, .t (.sl 6 (a0.map c_GApiNode))), (1, aI .i64 a1)] []) mixed [qn0] ⟨[0, 1], [], [], [], [], [], []⟩ aN (by kernel_rfl) ?_
  refine W_seq ?_
  refine W_seq ?_
  refine (Bool.eq_false_or_eq_true (decide (a1 ≥ (a0.length : Int)))).elim (fun hb1 => ?_) (fun hb1 => ?_)
  · have hx2 := hb1
    have h := if_t h hx2
    refine W_y (s' := LS.mk 56 [(0, .t (.sl 6 (a0.map c_GApiNode))), (1, aI .i64 a1), (31, aB true)] []) mixed [qn0, qn0, qn (.len a0.length), qn0, qn0, qt0, qt0, qt0, qt0, qt0, qt0, qn (.dec true), qn0, qn0, qn0, qn0, qn0, qn0, qn0, qn0, qn0, qn0, qn0, qn0, qn0] ⟨[0, 1, 31], [], [], [], [], [], []⟩ (aC (len_obx c_GApiNode a0) (aC hx2 (aC hx2 (aC hx2 (aC hx2 (aC hx2 (aC hx2 (aC hx2 aN)))))))) (by kernel_rfl) ?_
    refine W_cond true (by kernel_rfl) (fun _ => ?_) (fun hb => nomatch ((rfl : true = true).symm.trans hb))
    refine W_seq ?_
    refine W_y (s' := LS.mk 56 [(4, aI .i64 (-1))] []) mixed [qn0] ⟨[4], [], [], [], [], [], []⟩ aN (by kernel_rfl) ?_
    refine W_ret ?_
    exact kr [] _ _ (by kernel_rfl) (Option.some.inj h)
  · have hx2 := hb1
    have h := if_f h hx2
    obtain ⟨x1_7, hx1_7, h⟩ := bind_ok h
    refine (Bool.eq_false_or_eq_true (decide (x1_7.Size < 0))).elim (fun hb3 => ?_) (fun hb3 => ?_)
    · have hx4 := hb3
      have h := if_t h hx4
      refine W_y (s' := LS.mk 56 [(0, .t (.sl 6 (a0.map c_GApiNode))), (1, aI .i64 a1), (31, aB true)] []) mixed [qn0, qn0, qn (.len a0.length), qn0, qn0, qf0, qf0, qf (.ix (Int.toNat a1) (c_GApiNode x1_7)), qf0, qf0, qf0, qn (.dec false), qn0, qt0, qt0, qt0, qt0, qt0, qt0, qt0, qt0, qt0, qt0, qt0, qn (.dec true)] ⟨[0, 1, 31], [], [], [], [], [], []⟩ (aC (len_obx c_GApiNode a0) (aC hx2 (aC hx2 (aC hx2 (aC (ix_obx c_GApiNode hx1_7) (aC hx2 (aC hx2 (aC hx2 (aC hx2 (aC hx4 (aC hx4 (aC hx4 (aC hx4 (aC hx4 (aC hx4 (aC hx4 (aC hx4 (aC hx4 (aC hx4 (aC hx4 (aC hx4 aN))))))))))))))))))))) (by kernel_rfl) ?_
      refine W_cond true (by kernel_rfl) (fun _ => ?_) (fun hb => nomatch ((rfl : true = true).symm.trans hb))
      refine W_seq ?_
      refine W_y (s' := LS.mk 56 [(4, aI .i64 (-1))] []) mixed [qn0] ⟨[4], [], [], [], [], [], []⟩ aN (by kernel_rfl) ?_
      refine W_ret ?_
      exact kr [] _ _ (by kernel_rfl) (Option.some.inj h)
    · have hx4 := hb3
      have h := if_f h hx4
      refine W_y (s' := LS.mk 56 [(0, .t (.sl 6 (a0.map c_GApiNode))), (1, aI .i64 a1), (31, aB (decide (x1_7.Size > (w64 ((w64 ((a0.length : Int) - 1)) - a1)))))] []) mixed [qn0, qn0, qn (.len a0.length), qn0, qn0, qf0, qf0, qf (.ix (Int.toNat a1) (c_GApiNode x1_7)), qf0, qf0, qf0, qn (.dec false), qn0, qf0, qf0, qf (.ix (Int.toNat a1) (c_GApiNode x1_7)), qf0, qf0, qf0, qf (.len a0.length), qf0, qf0, qf0, qf0, qn (.dec false)] ⟨[0, 1, 31], [], [], [], [], [], []⟩ (aC (len_obx c_GApiNode a0) (aC hx2 (aC hx2 (aC hx2 (aC (ix_obx c_GApiNode hx1_7) (aC hx2 (aC hx2 (aC hx2 (aC hx2 (aC hx4 (aC hx4 (aC hx4 (aC (ix_obx c_GApiNode hx1_7) (aC hx4 (aC hx4 (aC hx4 (aC hx4 (aC (len_obx c_GApiNode a0) (aC hx4 (aC hx4 (aC hx4 (aC hx4 (aC hx4 aN))))))))))))))))))))))) (by kernel_rfl) ?_
      refine W_cond (decide (x1_7.Size > (w64 ((w64 ((a0.length : Int) - 1)) - a1)))) (by kernel_rfl) (fun hb5 => ?_) (fun hb5 => ?_)
      · have hx6 := hb5
        have h := if_t h hx6
        refine W_seq ?_
        refine W_y (s' := LS.mk 56 [(4, aI .i64 (-1))] []) mixed [qn0] ⟨[4], [], [], [], [], [], []⟩ aN (by kernel_rfl) ?_
        refine W_ret ?_
        exact kr [] _ _ (by kernel_rfl) (Option.some.inj h)
      · have hx6 := hb5
        have h := if_f h hx6
        refine W_skip ?_
        refine W_seq ?_
        refine W_y (s' := LS.mk 56 [(0, .t (.sl 6 (a0.map c_GApiNode))), (1, aI .i64 a1), (5, aI .i64 (w64 ((w64 (a1 + 1)) + x1_7.Size)))] []) mixed [qn0, qn0, qn0, qn0, qn (.ix (Int.toNat a1) (c_GApiNode x1_7)), qn0, qn0, qn0, qn0] ⟨[0, 1, 5], [], [], [], [], [], []⟩ (aC (ix_obx c_GApiNode hx1_7) aN) (by kernel_rfl) ?_
        refine W_seq ?_
        refine W_y (s' := LS.mk 56 [(0, .t (.sl 6 (a0.map c_GApiNode))), (5, aI .i64 (w64 ((w64 (a1 + 1)) + x1_7.Size))), (6, aI .i64 (w64 (a1 + 1)))] []) mixed [qn0, qn0, qn0] ⟨[0, 5, 6], [], [], [], [], [], []⟩ aN (by kernel_rfl) ?_
        refine W_seq ?_
        refine W_block ?_
        exact W_conv (s' := LS.mk 56 [(0, .t (.sl 6 (a0.map c_GApiNode))), (5, aI .i64 (w64 ((w64 (a1 + 1)) + x1_7.Size))), (6, aI .i64 (w64 (a1 + 1)))] []) ⟨[0, 5, 6], [], [], [], [], [], []⟩ (by kernel_rfl) (hindcastref05_end_l0_ok m (fun q hq => hrec_hindcastref05_end q (Nat.lt_trans hq hlt)) a0 a1 x1_7 (w64 (a1 + 1)) r_ _ kr (fun q1 hq1 v0_6_0 s' h hf => W_pre hf (hindcastref05_end_j1_ok q1 (fun q hq => hrec_hindcastref05_end q (Nat.lt_trans hq (Nat.lt_trans hq1 hlt))) a1 x1_7 v0_6_0 r_ _ kr h)) h)
theorem hindcastref05_end_all (n : Nat) : ∀ q, q < n → (∀ (a0 : (List GApiNode)) (a1 : Int) (r : Int), recN hindcastref05_end_B q (.run a0 a1) = some r → R_hindcastref05_end a0 a1 r) := by
  induction n with
  | zero => exact fun q hq => absurd hq (Nat.not_lt_zero q)
  | succ n ih => exact fun q hq => have hr := fun q' (hq' : q' < q) => ih q' (Nat.lt_of_lt_of_le hq' (Nat.le_of_lt_succ hq)); fun a0 a1 r h => hindcastref05_end_main q hr a0 a1 r h
theorem hindcastref05_end_ok {a0 : (List GApiNode)} {a1 : Int} {r : Int} (h : hindcastref05_end a0 a1 = some r) : R_hindcastref05_end a0 a1 r := by
  obtain ⟨n, hn⟩ := fix_rec (show fixD hindcastref05_end_B (.run a0 a1) = some r from h)
  exact (hindcastref05_end_all (n + 1) n (Nat.lt_succ_self n)) _ _ _ hn
def R_hindcastref05_Right (a0 : (List GApiNode)) (r : Bool) : Prop := FnP Try.prog 11 [.t (.sl 6 (a0.map c_GApiNode))] (aB r)
noncomputable def hindcastref05_Right (a0 : (List GApiNode)) : Option Bool :=
  (if (a0.length : Int) > 0 then ((hindcastref05_end a0 0).bind fun (r1_5 : Int) => (some (decide (r1_5 = (a0.length : Int))))) else (some false))
set_option maxRecDepth 100000 in
theorem hindcastref05_Right_ok {a0 : (List GApiNode)} {r_ : Bool} (h : hindcastref05_Right a0 = some r_) : R_hindcastref05_Right a0 r_ := by
  unfold hindcastref05_Right at h
  refine fn_pureX (fn := Try.f11) (by kernel_rfl) (c := subC (bodyC Try.prog 11) []) (by kernel_rfl) (by kernel_rfl) (Nat.le_of_ble_eq_true (by kernel_rfl)) ?_
  generalize hQ' : retQ Try.prog Try.f11 (aB r_) = Q'
  have kr : ∀ (ns : List (Nat × Nat × Nat)) (s : LS) (x : Bool), retX Try.prog ns [.tmp 2] s = some (aB x) → x = r_ → Q' .ret s.st := by subst hQ'; intro ns s x hx hq; subst hq; exact ret_ok (fn := Try.f11) ns hx
  change W Try.prog _ (LS.mk 13 [(0, .t (.sl 6 (a0.map c_GApiNode)))] []).st Q'
  refine W_seq ?_
  refine W_y (s' := LS.mk 13 [(0, .t (.sl 6 (a0.map c_GApiNode)))] []) mixed [qn0] ⟨[0], [], [], [], [], [], []⟩ aN (by kernel_rfl) ?_
  refine W_seq ?_
  refine (Bool.eq_false_or_eq_true (decide ((a0.length : Int) > 0))).elim (fun hb1 => ?_) (fun hb1 => ?_)
  · have hx2 := hb1
    have h := if_t h hx2
    obtain ⟨r1_5, hr1_5, h⟩ := bind_ok h
    have hr1_5 := hindcastref05_end_ok hr1_5
    refine W_y (s' := LS.mk 13 [(2, aB (decide (r1_5 = (a0.length : Int))))] []) mixed [qn0, qn (.len a0.length), qn0, qn0, qt0, qt (.call [] (aI .i64 r1_5)), qt0, qt (.len a0.length), qt0, qn (.dec true), qn0] ⟨[2], [], [], [], [], [], []⟩ (aC (len_obx c_GApiNode a0) (aC hx2 (aC hx2 (aC hr1_5 (aC hx2 (aC hx2 (aC (len_obx c_GApiNode a0) (aC hx2 (aC hx2 aN))))))))) (by kernel_rfl) ?_
    refine W_ret ?_
    exact kr [] _ _ (by kernel_rfl) (Option.some.inj h)
  · have hx2 := hb1
    have h := if_f h hx2
    refine W_y (s' := LS.mk 13 [(2, aB false)] []) mixed [qn0, qn (.len a0.length), qn0, qn0, qf0, qf0, qf0, qf0, qf0, qn (.dec false), qn0] ⟨[2], [], [], [], [], [], []⟩ (aC (len_obx c_GApiNode a0) (aC hx2 (aC hx2 (aC hx2 (aC hx2 (aC hx2 (aC hx2 aN))))))) (by kernel_rfl) ?_
    refine W_ret ?_
    exact kr [] _ _ (by kernel_rfl) (Option.some.inj h)
def RI_hindcastref05_Kids (a0 : (List GApiNode)) (a1 : Int) (r : (List Int)) : Prop := FnIO Try.prog 20 [.t (.sl 6 (a0.map c_GApiNode)), aI .i64 a1] [] (.ref 800000) [(800000, .row 3 1 (r.map c_i64))]
def R_hindcastref05_Kids (a0 : (List GApiNode)) (a1 : Int) (r : (List Int)) : Prop := FnP Try.prog 20 [.t (.sl 6 (a0.map c_GApiNode)), aI .i64 a1] (.t (.sl 1 (r.map c_i64)))
inductive hindcastref05_Kids_C where
  | l0 (a0 : (List GApiNode)) (a1 : Int) (v0_6_0 : Int) (w0_1005 : (List Int))
  | j1 (w0_1005 : (List Int))
abbrev hindcastref05_Kids_C_T : hindcastref05_Kids_C → Type := fun _ => (List Int)
noncomputable def hindcastref05_Kids_l0_b (g : (i : hindcastref05_Kids_C) → Option (hindcastref05_Kids_C_T i)) (a0 : (List GApiNode)) (a1 : Int) (v0_6_0 : Int) (w0_1005 : (List Int)) : Option (List Int) :=
  ((getI a0 a1).bind fun (x3_5 : GApiNode) => (if v0_6_0 < (w64 ((w64 (a1 + 1)) + x3_5.Size)) then (if AppOb 8 (w0_1005.length + ([v0_6_0] : List Int).length) then ((getI a0 v0_6_0).bind fun (x5_4 : GApiNode) => g (.l0 a0 a1 (w64 ((w64 (v0_6_0 + 1)) + x5_4.Size)) (w0_1005 ++ ([v0_6_0] : List Int)))) else none) else g (.j1 w0_1005)))
noncomputable def hindcastref05_Kids_j1_b (g : (i : hindcastref05_Kids_C) → Option (hindcastref05_Kids_C_T i)) (w0_1005 : (List Int)) : Option (List Int) :=
  (some w0_1005)
noncomputable def hindcastref05_Kids_B (g : (i : hindcastref05_Kids_C) → Option (hindcastref05_Kids_C_T i)) : (i : hindcastref05_Kids_C) → Option (hindcastref05_Kids_C_T i)
  | .l0 a0 a1 v0_6_0 w0_1005 => hindcastref05_Kids_l0_b g a0 a1 v0_6_0 w0_1005
  | .j1 w0_1005 => hindcastref05_Kids_j1_b g w0_1005
theorem hindcastref05_Kids_B_fin (i : hindcastref05_Kids_C) : Fin1 (fun g => hindcastref05_Kids_B g i) := by
  cases i with
  | l0 a0 a1 v0_6_0 w0_1005 => show Fin1 (fun g => hindcastref05_Kids_l0_b g a0 a1 v0_6_0 w0_1005); unfold hindcastref05_Kids_l0_b; repeat (first | refine fin_bind ?_ (fun _ => ?_) | refine fin_ite ?_ ?_ | exact fin_ask _ | exact fin_const _)
  | j1 w0_1005 => show Fin1 (fun g => hindcastref05_Kids_j1_b g w0_1005); unfold hindcastref05_Kids_j1_b; repeat (first | refine fin_bind ?_ (fun _ => ?_) | refine fin_ite ?_ ?_ | exact fin_ask _ | exact fin_const _)
noncomputable def hindcastref05_Kids_l0 (a0 : (List GApiNode)) (a1 : Int) (v0_6_0 : Int) (w0_1005 : (List Int)) : Option (List Int) := fixD hindcastref05_Kids_B (.l0 a0 a1 v0_6_0 w0_1005)
noncomputable def hindcastref05_Kids_j1 (w0_1005 : (List Int)) : Option (List Int) := fixD hindcastref05_Kids_B (.j1 w0_1005)
theorem hindcastref05_Kids_l0_eq (a0 : (List GApiNode)) (a1 : Int) (v0_6_0 : Int) (w0_1005 : (List Int)) : hindcastref05_Kids_l0 a0 a1 v0_6_0 w0_1005 =
  ((getI a0 a1).bind fun (x3_5 : GApiNode) => (if v0_6_0 < (w64 ((w64 (a1 + 1)) + x3_5.Size)) then (if AppOb 8 (w0_1005.length + ([v0_6_0] : List Int).length) then ((getI a0 v0_6_0).bind fun (x5_4 : GApiNode) => hindcastref05_Kids_l0 a0 a1 (w64 ((w64 (v0_6_0 + 1)) + x5_4.Size)) (w0_1005 ++ ([v0_6_0] : List Int))) else none) else hindcastref05_Kids_j1 w0_1005)) := fix_eq hindcastref05_Kids_B_fin _
theorem hindcastref05_Kids_j1_eq (w0_1005 : (List Int)) : hindcastref05_Kids_j1 w0_1005 =
  (some w0_1005) := fix_eq hindcastref05_Kids_B_fin _
set_option maxRecDepth 100000 in
theorem hindcastref05_Kids_l0_ok (n : Nat)  (a0 : (List GApiNode)) (a1 : Int) (v0_6_0 : Int) (w0_1005 : (List Int)) (r_ : (List Int)) (Q' : Exit → St → Prop) (kr : ∀ (v : CV) (s : LS) (x : (List Int)), retIOX Try.prog v [.tmp 4] s = some ((.ref 800000), [(800000, .row 3 1 (x.map c_i64))]) → x = r_ → Q' .ret s.st) (k_x_0 : ∀ (q : Nat), q < n → ∀ (w0_1005 : (List Int)) (s' : LS), recN hindcastref05_Kids_B q (.j1 w0_1005) = some r_ → Fits s'.st (LS.mk 33 [(5, .ref 1005)] [(1005, some (.row 3 1 (w0_1005.map c_i64)))]).st → Q' (.exit 0) s'.st) (h : recN hindcastref05_Kids_B n (.l0 a0 a1 v0_6_0 w0_1005) = some r_) : W Try.prog (subC (bodyC Try.prog 20) [1, 1, 0, 1, 0]) (LS.mk 33 [(0, .t (.sl 6 (a0.map c_GApiNode))), (1, aI .i64 a1), (5, .ref 1005), (6, aI .i64 v0_6_0)] [(1005, some (.row 3 1 (w0_1005.map c_i64)))]).st Q' := by
  refine W_fix (σ := Int × (List Int)) (fun m x_ => m ≤ n ∧ recN hindcastref05_Kids_B m (.l0 a0 a1 x_.1 x_.2) = some r_) (fun x_ => LS.mk 33 [(0, .t (.sl 6 (a0.map c_GApiNode))), (1, aI .i64 a1), (5, .ref 1005), (6, aI .i64 x_.1)] [(1005, some (.row 3 1 (x_.2.map c_i64)))]) (fun x hx => by cases hx.2) (fun _ _ => rfl) ?_ n (v0_6_0, w0_1005) ⟨Nat.le_refl _, h⟩
  clear h
  rintro m ⟨v0_6_0, w0_1005⟩ ⟨hlt, h⟩
  replace h : hindcastref05_Kids_l0_b (recN hindcastref05_Kids_B m) a0 a1 v0_6_0 w0_1005 = some r_ := h
  unfold hindcastref05_Kids_l0_b at h
  refine W_seq ?_
  refine W_seq ?_
  obtain ⟨x3_5, hx3_5, h⟩ := bind_ok h
  refine W_y (s' := LS.mk 33 [(0, .t (.sl 6 (a0.map c_GApiNode))), (1, aI .i64 a1), (5, .ref 1005), (6, aI .i64 v0_6_0), (19, aB (decide (v0_6_0 < (w64 ((w64 (a1 + 1)) + x3_5.Size)))))] [(1005, some (.row 3 1 (w0_1005.map c_i64)))]) mixed [qn0, qn0, qn0, qn0, qn0, qn (.ix (Int.toNat a1) (c_GApiNode x3_5)), qn0, qn0, qn0, qn0] ⟨[0, 1, 5, 6, 19], [], [], [], [(1005, 1005)], [], []⟩ (aC (ix_obx c_GApiNode hx3_5) aN) (by kernel_rfl) ?_
  refine W_cond (decide (v0_6_0 < (w64 ((w64 (a1 + 1)) + x3_5.Size)))) (by kernel_rfl) (fun hb1001 => ?_) (fun hb1001 => ?_)
  · have hx1002 := hb1001
    have h := if_t h hx1002
    refine W_skip ?_
    refine W_seq ?_
    refine W_block ?_
    obtain ⟨hd1003, h⟩ := ite_ok h
    refine W_y (s' := LS.mk 33 [(0, .t (.sl 6 (a0.map c_GApiNode))), (1, aI .i64 a1), (5, .ref 1005), (6, aI .i64 v0_6_0)] [(1005, some (.row 3 1 ((w0_1005 ++ ([v0_6_0] : List Int)).map c_i64)))]) mixed [qn0, qn0, qn0, qn (.rows ((w0_1005 ++ ([v0_6_0] : List Int)).map c_i64)), qn0] ⟨[0, 1, 5, 6], [], [], [], [(31, 1005)], [], []⟩ (aC (ap_obx c_i64 hd1003) (aC (app_obx c_i64 w0_1005 ([v0_6_0] : List Int)) aN)) (by kernel_rfl) ?_
    obtain ⟨x5_4, hx5_4, h⟩ := bind_ok h
    refine W_y (s' := LS.mk 33 [(0, .t (.sl 6 (a0.map c_GApiNode))), (1, aI .i64 a1), (5, .ref 1005), (6, aI .i64 (w64 ((w64 (v0_6_0 + 1)) + x5_4.Size)))] [(1005, some (.row 3 1 ((w0_1005 ++ ([v0_6_0] : List Int)).map c_i64)))]) mixed [qn0, qn0, qn0, qn0, qn (.ix (Int.toNat v0_6_0) (c_GApiNode x5_4)), qn0, qn0, qn0, qn0] ⟨[0, 1, 5, 6], [], [], [], [(1005, 1005)], [], []⟩ (aC (ix_obx c_GApiNode hx5_4) aN) (by kernel_rfl) ?_
    exact ⟨m, ((w64 ((w64 (v0_6_0 + 1)) + x5_4.Size)), (w0_1005 ++ ([v0_6_0] : List Int))), Nat.le_refl _, ⟨Nat.le_of_lt hlt, h⟩, convX_fits (v := ⟨[0, 1, 5, 6], [], [], [], [(1005, 1005)], [], []⟩) (s' := LS.mk 33 [(0, .t (.sl 6 (a0.map c_GApiNode))), (1, aI .i64 a1), (5, .ref 1005), (6, aI .i64 (w64 ((w64 (v0_6_0 + 1)) + x5_4.Size)))] [(1005, some (.row 3 1 ((w0_1005 ++ ([v0_6_0] : List Int)).map c_i64)))]) (by kernel_rfl)⟩
  · have hx1002 := hb1001
    have h := if_f h hx1002
    refine W_exit ?_
    exact k_x_0 m hlt w0_1005 _ h (convX_fits (v := ⟨[5], [], [], [], [(1005, 1005)], [], []⟩) (s' := LS.mk 33 [(5, .ref 1005)] [(1005, some (.row 3 1 (w0_1005.map c_i64)))]) (by kernel_rfl))
set_option maxRecDepth 100000 in
theorem hindcastref05_Kids_j1_ok (n : Nat)  (w0_1005 : (List Int)) (r_ : (List Int)) (Q' : Exit → St → Prop) (kr : ∀ (v : CV) (s : LS) (x : (List Int)), retIOX Try.prog v [.tmp 4] s = some ((.ref 800000), [(800000, .row 3 1 (x.map c_i64))]) → x = r_ → Q' .ret s.st)  (h : recN hindcastref05_Kids_B n (.j1 w0_1005) = some r_) : W Try.prog (subC (bodyC Try.prog 20) [1, 1, 1]) (LS.mk 33 [(5, .ref 1005)] [(1005, some (.row 3 1 (w0_1005.map c_i64)))]).st Q' := by
  cases n with
  | zero => cases h
  | succ m =>
  have hlt : m < m + 1 := Nat.lt_succ_self m
  replace h : hindcastref05_Kids_j1_b (recN hindcastref05_Kids_B m) w0_1005 = some r_ := h
  unfold hindcastref05_Kids_j1_b at h
  refine W_seq ?_
  refine W_y (s' := LS.mk 33 [(4, .ref 1004)] [(1004, some (.row 3 1 (w0_1005.map c_i64)))]) mixed [qn0, qn0] ⟨[4], [], [], [], [(1005, 1004)], [], []⟩ aN (by kernel_rfl) ?_
  refine W_ret ?_
  exact kr ⟨[], [], [], [], [(1004, 800000)], [], []⟩ _ w0_1005 (by kernel_rfl) (Option.some.inj h)
noncomputable def hindcastref05_Kids (a0 : (List GApiNode)) (a1 : Int) : Option (List Int) :=
  hindcastref05_Kids_l0 a0 a1 (w64 (a1 + 1)) ([] : List Int)
set_option maxRecDepth 100000 in
theorem hindcastref05_Kids_ok {a0 : (List GApiNode)} {a1 : Int} {r_ : (List Int)} (h : hindcastref05_Kids a0 a1 = some r_) : RI_hindcastref05_Kids a0 a1 r_ := by
  unfold hindcastref05_Kids at h
  refine fn_ioX (fn := Try.f20) (by kernel_rfl) (c := subC (bodyC Try.prog 20) []) (by kernel_rfl) (by kernel_rfl) (Nat.le_of_ble_eq_true (by kernel_rfl)) (Nat.le_of_ble_eq_true (by kernel_rfl)) ?_
  generalize hQ' : retIO Try.prog Try.f20 (.ref 800000) [(800000, .row 3 1 (r_.map c_i64))] = Q'
  have kr : ∀ (v : CV) (s : LS) (x : (List Int)), retIOX Try.prog v [.tmp 4] s = some ((.ref 800000), [(800000, .row 3 1 (x.map c_i64))]) → x = r_ → Q' .ret s.st := by subst hQ'; intro ns s x hx hq; subst hq; exact retIO_ret (fn := Try.f20) ns hx
  change W Try.prog _ (LS.mk 33 [(0, .t (.sl 6 (a0.map c_GApiNode))), (1, aI .i64 a1)] []).st Q'
  refine W_seq ?_
  refine W_y (s' := LS.mk 33 [(0, .t (.sl 6 (a0.map c_GApiNode))), (1, aI .i64 a1)] []) mixed [qn0] ⟨[0, 1], [], [], [], [], [], []⟩ aN (by kernel_rfl) ?_
  refine W_seq ?_
  refine W_y (s' := LS.mk 33 [(0, .t (.sl 6 (a0.map c_GApiNode))), (1, aI .i64 a1), (5, .ref 1005)] [(1005, some (.row 3 1 (([] : List Int).map c_i64)))]) mixed [qn0, qn0] ⟨[0, 1, 5], [], [], [], [(7, 1005)], [], []⟩ aN (by kernel_rfl) ?_
  refine W_seq ?_
  refine W_seq ?_
  refine W_y (s' := LS.mk 33 [(0, .t (.sl 6 (a0.map c_GApiNode))), (1, aI .i64 a1), (5, .ref 1005), (6, aI .i64 (w64 (a1 + 1)))] [(1005, some (.row 3 1 (([] : List Int).map c_i64)))]) mixed [qn0, qn0, qn0] ⟨[0, 1, 5, 6], [], [], [], [(1005, 1005)], [], []⟩ aN (by kernel_rfl) ?_
  refine W_block ?_
  obtain ⟨n, h⟩ := fix_rec h
  exact W_conv (s' := LS.mk 33 [(0, .t (.sl 6 (a0.map c_GApiNode))), (1, aI .i64 a1), (5, .ref 1005), (6, aI .i64 (w64 (a1 + 1)))] [(1005, some (.row 3 1 (([] : List Int).map c_i64)))]) ⟨[0, 1, 5, 6], [], [], [], [(1005, 1005)], [], []⟩ (by kernel_rfl) (hindcastref05_Kids_l0_ok n a0 a1 (w64 (a1 + 1)) ([] : List Int) r_ _ kr (fun q1 hq1 w0_1005 s' h hf => W_pre hf (hindcastref05_Kids_j1_ok q1 w0_1005 r_ _ kr h)) h)
theorem hindcastref05_Kids_okp {a0 : (List GApiNode)} {a1 : Int} {r_ : (List Int)} (h : hindcastref05_Kids a0 a1 = some r_) : R_hindcastref05_Kids a0 a1 r_ := fnio_pure (hindcastref05_Kids_ok h) (by kernel_rfl) (by kernel_rfl)
def R_hindcastref05_Up (a0 : (List GApiNode)) (a1 : Int) (r : Int) : Prop := FnP Try.prog 21 [.t (.sl 6 (a0.map c_GApiNode)), aI .i64 a1] (aI .i64 r)
inductive hindcastref05_Up_C where
  | l0 (a0 : (List GApiNode)) (a1 : Int) (v0_10_0 : Int)
  | l1 (a0 : (List GApiNode)) (a1 : Int) (v1_5_0 : Int) (v1_10_0 : Int) (r4_2 : (List Int)) (v1_18_0 : Int)
  | j2 
  | j3 (a0 : (List GApiNode)) (a1 : Int) (v3_10_0 : Int)
abbrev hindcastref05_Up_C_T : hindcastref05_Up_C → Type := fun _ => Int
noncomputable def hindcastref05_Up_l0_b (g : (i : hindcastref05_Up_C) → Option (hindcastref05_Up_C_T i)) (a0 : (List GApiNode)) (a1 : Int) (v0_10_0 : Int) : Option Int :=
  (if v0_10_0 < (a0.length : Int) then ((hindcastref05_Kids a0 v0_10_0).bind fun (r4_2 : (List Int)) => g (.l1 a0 a1 v0_10_0 v0_10_0 r4_2 0)) else g (.j2))
noncomputable def hindcastref05_Up_l1_b (g : (i : hindcastref05_Up_C) → Option (hindcastref05_Up_C_T i)) (a0 : (List GApiNode)) (a1 : Int) (v1_5_0 : Int) (v1_10_0 : Int) (r4_2 : (List Int)) (v1_18_0 : Int) : Option Int :=
  (if v1_18_0 < (r4_2.length : Int) then ((getI r4_2 v1_18_0).bind fun (x8_2 : Int) => (if x8_2 = a1 then (some v1_5_0) else g (.l1 a0 a1 v1_5_0 v1_10_0 r4_2 (w64 (v1_18_0 + 1))))) else g (.j3 a0 a1 v1_10_0))
noncomputable def hindcastref05_Up_j2_b (g : (i : hindcastref05_Up_C) → Option (hindcastref05_Up_C_T i))  : Option Int :=
  (some (-1))
noncomputable def hindcastref05_Up_j3_b (g : (i : hindcastref05_Up_C) → Option (hindcastref05_Up_C_T i)) (a0 : (List GApiNode)) (a1 : Int) (v3_10_0 : Int) : Option Int :=
  g (.l0 a0 a1 (w64 (v3_10_0 + 1)))
noncomputable def hindcastref05_Up_B (g : (i : hindcastref05_Up_C) → Option (hindcastref05_Up_C_T i)) : (i : hindcastref05_Up_C) → Option (hindcastref05_Up_C_T i)
  | .l0 a0 a1 v0_10_0 => hindcastref05_Up_l0_b g a0 a1 v0_10_0
  | .l1 a0 a1 v1_5_0 v1_10_0 r4_2 v1_18_0 => hindcastref05_Up_l1_b g a0 a1 v1_5_0 v1_10_0 r4_2 v1_18_0
  | .j2  => hindcastref05_Up_j2_b g 
  | .j3 a0 a1 v3_10_0 => hindcastref05_Up_j3_b g a0 a1 v3_10_0
theorem hindcastref05_Up_B_fin (i : hindcastref05_Up_C) : Fin1 (fun g => hindcastref05_Up_B g i) := by
  cases i with
  | l0 a0 a1 v0_10_0 => show Fin1 (fun g => hindcastref05_Up_l0_b g a0 a1 v0_10_0); unfold hindcastref05_Up_l0_b; repeat (first | refine fin_bind ?_ (fun _ => ?_) | refine fin_ite ?_ ?_ | exact fin_ask _ | exact fin_const _)
  | l1 a0 a1 v1_5_0 v1_10_0 r4_2 v1_18_0 => show Fin1 (fun g => hindcastref05_Up_l1_b g a0 a1 v1_5_0 v1_10_0 r4_2 v1_18_0); unfold hindcastref05_Up_l1_b; repeat (first | refine fin_bind ?_ (fun _ => ?_) | refine fin_ite ?_ ?_ | exact fin_ask _ | exact fin_const _)
  | j2  => show Fin1 (fun g => hindcastref05_Up_j2_b g ); unfold hindcastref05_Up_j2_b; repeat (first | refine fin_bind ?_ (fun _ => ?_) | refine fin_ite ?_ ?_ | exact fin_ask _ | exact fin_const _)
  | j3 a0 a1 v3_10_0 => show Fin1 (fun g => hindcastref05_Up_j3_b g a0 a1 v3_10_0); unfold hindcastref05_Up_j3_b; repeat (first | refine fin_bind ?_ (fun _ => ?_) | refine fin_ite ?_ ?_ | exact fin_ask _ | exact fin_const _)
noncomputable def hindcastref05_Up_l0 (a0 : (List GApiNode)) (a1 : Int) (v0_10_0 : Int) : Option Int := fixD hindcastref05_Up_B (.l0 a0 a1 v0_10_0)
noncomputable def hindcastref05_Up_l1 (a0 : (List GApiNode)) (a1 : Int) (v1_5_0 : Int) (v1_10_0 : Int) (r4_2 : (List Int)) (v1_18_0 : Int) : Option Int := fixD hindcastref05_Up_B (.l1 a0 a1 v1_5_0 v1_10_0 r4_2 v1_18_0)
noncomputable def hindcastref05_Up_j2  : Option Int := fixD hindcastref05_Up_B (.j2 )
noncomputable def hindcastref05_Up_j3 (a0 : (List GApiNode)) (a1 : Int) (v3_10_0 : Int) : Option Int := fixD hindcastref05_Up_B (.j3 a0 a1 v3_10_0)
theorem hindcastref05_Up_l0_eq (a0 : (List GApiNode)) (a1 : Int) (v0_10_0 : Int) : hindcastref05_Up_l0 a0 a1 v0_10_0 =
  (if v0_10_0 < (a0.length : Int) then ((hindcastref05_Kids a0 v0_10_0).bind fun (r4_2 : (List Int)) => hindcastref05_Up_l1 a0 a1 v0_10_0 v0_10_0 r4_2 0) else hindcastref05_Up_j2) := fix_eq hindcastref05_Up_B_fin _
theorem hindcastref05_Up_l1_eq (a0 : (List GApiNode)) (a1 : Int) (v1_5_0 : Int) (v1_10_0 : Int) (r4_2 : (List Int)) (v1_18_0 : Int) : hindcastref05_Up_l1 a0 a1 v1_5_0 v1_10_0 r4_2 v1_18_0 =
  (if v1_18_0 < (r4_2.length : Int) then ((getI r4_2 v1_18_0).bind fun (x8_2 : Int) => (if x8_2 = a1 then (some v1_5_0) else hindcastref05_Up_l1 a0 a1 v1_5_0 v1_10_0 r4_2 (w64 (v1_18_0 + 1)))) else hindcastref05_Up_j3 a0 a1 v1_10_0) := fix_eq hindcastref05_Up_B_fin _
theorem hindcastref05_Up_j2_eq  : hindcastref05_Up_j2  =
  (some (-1)) := fix_eq hindcastref05_Up_B_fin _
theorem hindcastref05_Up_j3_eq (a0 : (List GApiNode)) (a1 : Int) (v3_10_0 : Int) : hindcastref05_Up_j3 a0 a1 v3_10_0 =
  hindcastref05_Up_l0 a0 a1 (w64 (v3_10_0 + 1)) := fix_eq hindcastref05_Up_B_fin _
set_option maxRecDepth 100000 in
theorem hindcastref05_Up_l1_ok (n : Nat)  (a0 : (List GApiNode)) (a1 : Int) (v1_5_0 : Int) (v1_10_0 : Int) (r4_2 : (List Int)) (v1_18_0 : Int) (r_ : Int) (Q' : Exit → St → Prop) (kr : ∀ (ns : List (Nat × Nat × Nat)) (s : LS) (x : Int), retX Try.prog ns [.tmp 4] s = some (aI .i64 x) → x = r_ → Q' .ret s.st) (k_x_2 : ∀ (q : Nat), q < n → ∀ (v3_10_0 : Int) (s' : LS), recN hindcastref05_Up_B q (.j3 a0 a1 v3_10_0) = some r_ → Fits s'.st (LS.mk 30 [(0, .t (.sl 6 (a0.map c_GApiNode))), (1, aI .i64 a1), (9, aI .i64 (a0.length : Int)), (10, aI .i64 v3_10_0)] []).st → Q' (.exit 2) s'.st) (h : recN hindcastref05_Up_B n (.l1 a0 a1 v1_5_0 v1_10_0 r4_2 v1_18_0) = some r_) : W Try.prog (subC (bodyC Try.prog 21) [1, 0, 1, 0, 0, 1, 1, 0, 0, 1, 1, 1, 0]) (LS.mk 30 [(0, .t (.sl 6 (a0.map c_GApiNode))), (1, aI .i64 a1), (5, aI .i64 v1_5_0), (6, .ref 1006), (9, aI .i64 (a0.length : Int)), (10, aI .i64 v1_10_0), (17, aI .i64 (r4_2.length : Int)), (18, aI .i64 v1_18_0)] [(1006, some (.row 3 1 (r4_2.map c_i64)))]).st Q' := by
  refine W_fix (σ := Int × Int × Int) (fun m x_ => m ≤ n ∧ recN hindcastref05_Up_B m (.l1 a0 a1 x_.1 x_.2.1 r4_2 x_.2.2) = some r_) (fun x_ => LS.mk 30 [(0, .t (.sl 6 (a0.map c_GApiNode))), (1, aI .i64 a1), (5, aI .i64 x_.1), (6, .ref 1006), (9, aI .i64 (a0.length : Int)), (10, aI .i64 x_.2.1), (17, aI .i64 (r4_2.length : Int)), (18, aI .i64 x_.2.2)] [(1006, some (.row 3 1 (r4_2.map c_i64)))]) (fun x hx => by cases hx.2) (fun _ _ => rfl) ?_ n (v1_5_0, v1_10_0, v1_18_0) ⟨Nat.le_refl _, h⟩
  clear h
  rintro m ⟨v1_5_0, v1_10_0, v1_18_0⟩ ⟨hlt, h⟩
  replace h : hindcastref05_Up_l1_b (recN hindcastref05_Up_B m) a0 a1 v1_5_0 v1_10_0 r4_2 v1_18_0 = some r_ := h
  unfold hindcastref05_Up_l1_b at h
  refine W_seq ?_
  refine W_y (s' := LS.mk 30 [(0, .t (.sl 6 (a0.map c_GApiNode))), (1, aI .i64 a1), (5, aI .i64 v1_5_0), (6, .ref 1006), (9, aI .i64 (a0.length : Int)), (10, aI .i64 v1_10_0), (17, aI .i64 (r4_2.length : Int)), (18, aI .i64 v1_18_0), (19, aB (decide (v1_18_0 < (r4_2.length : Int))))] [(1006, some (.row 3 1 (r4_2.map c_i64)))]) mixed [qn0] ⟨[0, 1, 5, 6, 9, 10, 17, 18, 19], [], [], [], [(1006, 1006)], [], []⟩ aN (by kernel_rfl) ?_
  refine W_seq ?_
  refine W_cond (decide (v1_18_0 < (r4_2.length : Int))) (by kernel_rfl) (fun hb2001 => ?_) (fun hb2001 => ?_)
  · have hx2002 := hb2001
    have h := if_t h hx2002
    refine W_skip ?_
    refine W_seq ?_
    refine W_block ?_
    refine W_seq ?_
    refine W_y (s' := LS.mk 30 [(0, .t (.sl 6 (a0.map c_GApiNode))), (1, aI .i64 a1), (5, aI .i64 v1_5_0), (6, .ref 1006), (7, aI .i64 v1_18_0), (9, aI .i64 (a0.length : Int)), (10, aI .i64 v1_10_0), (17, aI .i64 (r4_2.length : Int)), (18, aI .i64 v1_18_0)] [(1006, some (.row 3 1 (r4_2.map c_i64)))]) mixed [qn0, qn0] ⟨[0, 1, 5, 6, 7, 9, 10, 17, 18], [], [], [], [(1006, 1006)], [], []⟩ aN (by kernel_rfl) ?_
    refine W_seq ?_
    obtain ⟨x8_2, hx8_2, h⟩ := bind_ok h
    refine W_y (s' := LS.mk 30 [(0, .t (.sl 6 (a0.map c_GApiNode))), (1, aI .i64 a1), (5, aI .i64 v1_5_0), (6, .ref 1006), (9, aI .i64 (a0.length : Int)), (10, aI .i64 v1_10_0), (17, aI .i64 (r4_2.length : Int)), (18, aI .i64 v1_18_0), (26, aB (decide (x8_2 = a1)))] [(1006, some (.row 3 1 (r4_2.map c_i64)))]) mixed [qn0, qn0, qn (.ix (Int.toNat v1_18_0) (c_i64 x8_2)), qn (.ix (Int.toNat v1_18_0) (c_i64 x8_2)), qn0, qn0] ⟨[0, 1, 5, 6, 9, 10, 17, 18, 26], [], [], [], [(1006, 1006)], [], []⟩ (aC (ix_obx c_i64 hx8_2) (aC (el_obx c_i64 hx8_2) aN)) (by kernel_rfl) ?_
    refine W_cond (decide (x8_2 = a1)) (by kernel_rfl) (fun hb2003 => ?_) (fun hb2003 => ?_)
    · have hx2004 := hb2003
      have h := if_t h hx2004
      refine W_seq ?_
      refine W_y (s' := LS.mk 30 [(4, aI .i64 v1_5_0)] []) mixed [qn0, qn0] ⟨[4], [], [], [], [], [], []⟩ aN (by kernel_rfl) ?_
      refine W_ret ?_
      exact kr [] _ _ (by kernel_rfl) (Option.some.inj h)
    · have hx2004 := hb2003
      have h := if_f h hx2004
      refine W_skip ?_
      refine W_y (s' := LS.mk 30 [(0, .t (.sl 6 (a0.map c_GApiNode))), (1, aI .i64 a1), (5, aI .i64 v1_5_0), (6, .ref 1006), (9, aI .i64 (a0.length : Int)), (10, aI .i64 v1_10_0), (17, aI .i64 (r4_2.length : Int)), (18, aI .i64 (w64 (v1_18_0 + 1)))] [(1006, some (.row 3 1 (r4_2.map c_i64)))]) mixed [qn0, qn0] ⟨[0, 1, 5, 6, 9, 10, 17, 18], [], [], [], [(1006, 1006)], [], []⟩ aN (by kernel_rfl) ?_
      exact ⟨m, (v1_5_0, v1_10_0, (w64 (v1_18_0 + 1))), Nat.le_refl _, ⟨Nat.le_of_lt hlt, h⟩, convX_fits (v := ⟨[0, 1, 5, 6, 9, 10, 17, 18], [], [], [], [(1006, 1006)], [], []⟩) (s' := LS.mk 30 [(0, .t (.sl 6 (a0.map c_GApiNode))), (1, aI .i64 a1), (5, aI .i64 v1_5_0), (6, .ref 1006), (9, aI .i64 (a0.length : Int)), (10, aI .i64 v1_10_0), (17, aI .i64 (r4_2.length : Int)), (18, aI .i64 (w64 (v1_18_0 + 1)))] [(1006, some (.row 3 1 (r4_2.map c_i64)))]) (by kernel_rfl)⟩
  · have hx2002 := hb2001
    have h := if_f h hx2002
    refine W_exit ?_
    exact k_x_2 m hlt v1_10_0 _ h (convX_fits (v := ⟨[0, 1, 9, 10], [], [], [], [], [], []⟩) (s' := LS.mk 30 [(0, .t (.sl 6 (a0.map c_GApiNode))), (1, aI .i64 a1), (9, aI .i64 (a0.length : Int)), (10, aI .i64 v1_10_0)] []) (by kernel_rfl))
set_option maxRecDepth 100000 in
theorem hindcastref05_Up_j2_ok (n : Nat)   (r_ : Int) (Q' : Exit → St → Prop) (kr : ∀ (ns : List (Nat × Nat × Nat)) (s : LS) (x : Int), retX Try.prog ns [.tmp 4] s = some (aI .i64 x) → x = r_ → Q' .ret s.st)  (h : recN hindcastref05_Up_B n (.j2 ) = some r_) : W Try.prog (subC (bodyC Try.prog 21) [1, 1]) (LS.mk 30 [] []).st Q' := by
  cases n with
  | zero => cases h
  | succ m =>
  have hlt : m < m + 1 := Nat.lt_succ_self m
  replace h : hindcastref05_Up_j2_b (recN hindcastref05_Up_B m)  = some r_ := h
  unfold hindcastref05_Up_j2_b at h
  refine W_seq ?_
  refine W_y (s' := LS.mk 30 [(4, aI .i64 (-1))] []) mixed [qn0] ⟨[4], [], [], [], [], [], []⟩ aN (by kernel_rfl) ?_
  refine W_ret ?_
  exact kr [] _ _ (by kernel_rfl) (Option.some.inj h)
set_option maxRecDepth 100000 in
theorem hindcastref05_Up_j3_ok (n : Nat)  (a0 : (List GApiNode)) (a1 : Int) (v3_10_0 : Int) (r_ : Int) (Q' : Exit → St → Prop) (kr : ∀ (ns : List (Nat × Nat × Nat)) (s : LS) (x : Int), retX Try.prog ns [.tmp 4] s = some (aI .i64 x) → x = r_ → Q' .ret s.st) (k_n : ∀ (q : Nat), q < n → ∀ (v0_10_0 : Int) (s' : LS), recN hindcastref05_Up_B q (.l0 a0 a1 v0_10_0) = some r_ → Fits s'.st (LS.mk 30 [(0, .t (.sl 6 (a0.map c_GApiNode))), (1, aI .i64 a1), (9, aI .i64 (a0.length : Int)), (10, aI .i64 v0_10_0)] []).st → Q' .normal s'.st) (h : recN hindcastref05_Up_B n (.j3 a0 a1 v3_10_0) = some r_) : W Try.prog (subC (bodyC Try.prog 21) [1, 0, 1, 0, 0, 1, 1, 1]) (LS.mk 30 [(0, .t (.sl 6 (a0.map c_GApiNode))), (1, aI .i64 a1), (9, aI .i64 (a0.length : Int)), (10, aI .i64 v3_10_0)] []).st Q' := by
  cases n with
  | zero => cases h
  | succ m =>
  have hlt : m < m + 1 := Nat.lt_succ_self m
  replace h : hindcastref05_Up_j3_b (recN hindcastref05_Up_B m) a0 a1 v3_10_0 = some r_ := h
  unfold hindcastref05_Up_j3_b at h
  refine W_y (s' := LS.mk 30 [(0, .t (.sl 6 (a0.map c_GApiNode))), (1, aI .i64 a1), (9, aI .i64 (a0.length : Int)), (10, aI .i64 (w64 (v3_10_0 + 1)))] []) mixed [qn0, qn0] ⟨[0, 1, 9, 10], [], [], [], [], [], []⟩ aN (by kernel_rfl) ?_
  exact k_n m hlt (w64 (v3_10_0 + 1)) _ h (convX_fits (v := ⟨[0, 1, 9, 10], [], [], [], [], [], []⟩) (s' := LS.mk 30 [(0, .t (.sl 6 (a0.map c_GApiNode))), (1, aI .i64 a1), (9, aI .i64 (a0.length : Int)), (10, aI .i64 (w64 (v3_10_0 + 1)))] []) (by kernel_rfl))
set_option maxRecDepth 100000 in
theorem hindcastref05_Up_l0_ok (n : Nat)  (a0 : (List GApiNode)) (a1 : Int) (v0_10_0 : Int) (r_ : Int) (Q' : Exit → St → Prop) (kr : ∀ (ns : List (Nat × Nat × Nat)) (s : LS) (x : Int), retX Try.prog ns [.tmp 4] s = some (aI .i64 x) → x = r_ → Q' .ret s.st) (k_x_0 : ∀ (q : Nat), q < n → ∀  (s' : LS), recN hindcastref05_Up_B q (.j2 ) = some r_ → Fits s'.st (LS.mk 30 [] []).st → Q' (.exit 0) s'.st) (h : recN hindcastref05_Up_B n (.l0 a0 a1 v0_10_0) = some r_) : W Try.prog (subC (bodyC Try.prog 21) [1, 0, 1, 0]) (LS.mk 30 [(0, .t (.sl 6 (a0.map c_GApiNode))), (1, aI .i64 a1), (9, aI .i64 (a0.length : Int)), (10, aI .i64 v0_10_0)] []).st Q' := by
  refine W_fix (σ := Int) (fun m x_ => m ≤ n ∧ recN hindcastref05_Up_B m (.l0 a0 a1 x_) = some r_) (fun x_ => LS.mk 30 [(0, .t (.sl 6 (a0.map c_GApiNode))), (1, aI .i64 a1), (9, aI .i64 (a0.length : Int)), (10, aI .i64 x_)] []) (fun x hx => by cases hx.2) (fun _ _ => rfl) ?_ n (v0_10_0) ⟨Nat.le_refl _, h⟩
  clear h
  rintro m v0_10_0 ⟨hlt, h⟩
  replace h : hindcastref05_Up_l0_b (recN hindcastref05_Up_B m) a0 a1 v0_10_0 = some r_ := h
  unfold hindcastref05_Up_l0_b at h
  refine W_seq ?_
  refine W_y (s' := LS.mk 30 [(0, .t (.sl 6 (a0.map c_GApiNode))), (1, aI .i64 a1), (9, aI .i64 (a0.length : Int)), (10, aI .i64 v0_10_0), (11, aB (decide (v0_10_0 < (a0.length : Int))))] []) mixed [qn0] ⟨[0, 1, 9, 10, 11], [], [], [], [], [], []⟩ aN (by kernel_rfl) ?_
  refine W_seq ?_
  refine W_cond (decide (v0_10_0 < (a0.length : Int))) (by kernel_rfl) (fun hb1001 => ?_) (fun hb1001 => ?_)
  · have hx1002 := hb1001
    have h := if_t h hx1002
    refine W_skip ?_
    refine W_seq ?_
    refine W_block ?_
    refine W_seq ?_
    refine W_y (s' := LS.mk 30 [(0, .t (.sl 6 (a0.map c_GApiNode))), (1, aI .i64 a1), (5, aI .i64 v0_10_0), (9, aI .i64 (a0.length : Int)), (10, aI .i64 v0_10_0)] []) mixed [qn0, qn0] ⟨[0, 1, 5, 9, 10], [], [], [], [], [], []⟩ aN (by kernel_rfl) ?_
    refine W_seq ?_
    obtain ⟨r4_2, hr4_2, h⟩ := bind_ok h
    have hr4_2 := hindcastref05_Kids_ok hr4_2
    refine W_y (s' := LS.mk 30 [(0, .t (.sl 6 (a0.map c_GApiNode))), (1, aI .i64 a1), (5, aI .i64 v0_10_0), (6, .ref 1006), (9, aI .i64 (a0.length : Int)), (10, aI .i64 v0_10_0)] [(1006, some (.row 3 1 (r4_2.map c_i64)))]) mixed [qn0, qn0, qn (.io ⟨[], [], [], [], [], [], [(800000, 15)]⟩ (.ref 800000) [(800000, .row 3 1 (r4_2.map c_i64))]), qn0] ⟨[0, 1, 5, 6, 9, 10], [], [], [], [(15, 1006)], [], []⟩ (aC hr4_2 aN) (by kernel_rfl) ?_
    refine W_seq ?_
    refine W_y (s' := LS.mk 30 [(0, .t (.sl 6 (a0.map c_GApiNode))), (1, aI .i64 a1), (5, aI .i64 v0_10_0), (6, .ref 1006), (9, aI .i64 (a0.length : Int)), (10, aI .i64 v0_10_0), (17, aI .i64 (r4_2.length : Int)), (18, aI .i64 0)] [(1006, some (.row 3 1 (r4_2.map c_i64)))]) mixed [qn0, qn (.len r4_2.length), qn0] ⟨[0, 1, 5, 6, 9, 10, 17, 18], [], [], [], [(1006, 1006)], [], []⟩ (aC (len_obx c_i64 r4_2) aN) (by kernel_rfl) ?_
    refine W_block ?_
    exact W_conv (s' := LS.mk 30 [(0, .t (.sl 6 (a0.map c_GApiNode))), (1, aI .i64 a1), (5, aI .i64 v0_10_0), (6, .ref 1006), (9, aI .i64 (a0.length : Int)), (10, aI .i64 v0_10_0), (17, aI .i64 (r4_2.length : Int)), (18, aI .i64 0)] [(1006, some (.row 3 1 (r4_2.map c_i64)))]) ⟨[0, 1, 5, 6, 9, 10, 17, 18], [], [], [], [(1006, 1006)], [], []⟩ (by kernel_rfl) (hindcastref05_Up_l1_ok m a0 a1 v0_10_0 v0_10_0 r4_2 0 r_ _ kr (fun q1 hq1 v3_10_0 s' h hf => W_pre hf (hindcastref05_Up_j3_ok q1 a0 a1 v3_10_0 r_ _ kr (fun q2 hq2 v0_10_0 s' h hf => ⟨q2, (v0_10_0), Nat.le_of_lt (Nat.lt_trans hq2 hq1), ⟨Nat.le_of_lt (Nat.lt_trans hq2 (Nat.lt_trans hq1 hlt)), h⟩, hf⟩) h)) h)
  · have hx1002 := hb1001
    have h := if_f h hx1002
    refine W_exit ?_
    exact k_x_0 m hlt  _ h (convX_fits (v := ⟨[], [], [], [], [], [], []⟩) (s' := LS.mk 30 [] []) (by kernel_rfl))
noncomputable def hindcastref05_Up (a0 : (List GApiNode)) (a1 : Int) : Option Int :=
  hindcastref05_Up_l0 a0 a1 0
set_option maxRecDepth 100000 in
theorem hindcastref05_Up_ok {a0 : (List GApiNode)} {a1 : Int} {r_ : Int} (h : hindcastref05_Up a0 a1 = some r_) : R_hindcastref05_Up a0 a1 r_ := by
  unfold hindcastref05_Up at h
  refine fn_pureX (fn := Try.f21) (by kernel_rfl) (c := subC (bodyC Try.prog 21) []) (by kernel_rfl) (by kernel_rfl) (Nat.le_of_ble_eq_true (by kernel_rfl)) ?_
  generalize hQ' : retQ Try.prog Try.f21 (aI .i64 r_) = Q'
  have kr : ∀ (ns : List (Nat × Nat × Nat)) (s : LS) (x : Int), retX Try.prog ns [.tmp 4] s = some (aI .i64 x) → x = r_ → Q' .ret s.st := by subst hQ'; intro ns s x hx hq; subst hq; exact ret_ok (fn := Try.f21) ns hx
  change W Try.prog _ (LS.mk 30 [(0, .t (.sl 6 (a0.map c_GApiNode))), (1, aI .i64 a1)] []).st Q'
  refine W_seq ?_
  refine W_y (s' := LS.mk 30 [(0, .t (.sl 6 (a0.map c_GApiNode))), (1, aI .i64 a1)] []) mixed [qn0] ⟨[0, 1], [], [], [], [], [], []⟩ aN (by kernel_rfl) ?_
  refine W_seq ?_
  refine W_seq ?_
  refine W_y (s' := LS.mk 30 [(0, .t (.sl 6 (a0.map c_GApiNode))), (1, aI .i64 a1), (9, aI .i64 (a0.length : Int)), (10, aI .i64 0)] []) mixed [qn0, qn (.len a0.length), qn0] ⟨[0, 1, 9, 10], [], [], [], [], [], []⟩ (aC (len_obx c_GApiNode a0) aN) (by kernel_rfl) ?_
  refine W_block ?_
  obtain ⟨n, h⟩ := fix_rec h
  exact W_conv (s' := LS.mk 30 [(0, .t (.sl 6 (a0.map c_GApiNode))), (1, aI .i64 a1), (9, aI .i64 (a0.length : Int)), (10, aI .i64 0)] []) ⟨[0, 1, 9, 10], [], [], [], [], [], []⟩ (by kernel_rfl) (hindcastref05_Up_l0_ok n a0 a1 0 r_ _ kr (fun q1 hq1  s' h hf => W_pre hf (hindcastref05_Up_j2_ok q1 r_ _ kr h)) h)
def R_tree_Up (a0 : (List GApiNode)) (a1 : Int) (r : Int) : Prop := FnP Try.prog 19 [.t (.sl 6 (a0.map c_GApiNode)), aI .i64 a1] (aI .i64 r)
inductive tree_Up_C where
  | l0 (a0 : (List GApiNode)) (a1 : Int) (v0_5_0 : Int)
  | j1 
abbrev tree_Up_C_T : tree_Up_C → Type := fun _ => Int
noncomputable def tree_Up_l0_b (g : (i : tree_Up_C) → Option (tree_Up_C_T i)) (a0 : (List GApiNode)) (a1 : Int) (v0_5_0 : Int) : Option Int :=
  (if v0_5_0 ≥ 0 then ((getI a0 v0_5_0).bind fun (x5_3 : GApiNode) => (if (w64 (v0_5_0 + x5_3.Size)) ≥ a1 then (some v0_5_0) else g (.l0 a0 a1 (w64 (v0_5_0 - 1))))) else g (.j1))
noncomputable def tree_Up_j1_b (g : (i : tree_Up_C) → Option (tree_Up_C_T i))  : Option Int :=
  (some (-1))
noncomputable def tree_Up_B (g : (i : tree_Up_C) → Option (tree_Up_C_T i)) : (i : tree_Up_C) → Option (tree_Up_C_T i)
  | .l0 a0 a1 v0_5_0 => tree_Up_l0_b g a0 a1 v0_5_0
  | .j1  => tree_Up_j1_b g 
theorem tree_Up_B_fin (i : tree_Up_C) : Fin1 (fun g => tree_Up_B g i) := by
  cases i with
  | l0 a0 a1 v0_5_0 => show Fin1 (fun g => tree_Up_l0_b g a0 a1 v0_5_0); unfold tree_Up_l0_b; repeat (first | refine fin_bind ?_ (fun _ => ?_) | refine fin_ite ?_ ?_ | exact fin_ask _ | exact fin_const _)
  | j1  => show Fin1 (fun g => tree_Up_j1_b g ); unfold tree_Up_j1_b; repeat (first | refine fin_bind ?_ (fun _ => ?_) | refine fin_ite ?_ ?_ | exact fin_ask _ | exact fin_const _)
noncomputable def tree_Up_l0 (a0 : (List GApiNode)) (a1 : Int) (v0_5_0 : Int) : Option Int := fixD tree_Up_B (.l0 a0 a1 v0_5_0)
noncomputable def tree_Up_j1  : Option Int := fixD tree_Up_B (.j1 )
theorem tree_Up_l0_eq (a0 : (List GApiNode)) (a1 : Int) (v0_5_0 : Int) : tree_Up_l0 a0 a1 v0_5_0 =
  (if v0_5_0 ≥ 0 then ((getI a0 v0_5_0).bind fun (x5_3 : GApiNode) => (if (w64 (v0_5_0 + x5_3.Size)) ≥ a1 then (some v0_5_0) else tree_Up_l0 a0 a1 (w64 (v0_5_0 - 1)))) else tree_Up_j1) := fix_eq tree_Up_B_fin _
theorem tree_Up_j1_eq  : tree_Up_j1  =
  (some (-1)) := fix_eq tree_Up_B_fin _
set_option maxRecDepth 100000 in
theorem tree_Up_l0_ok (n : Nat)  (a0 : (List GApiNode)) (a1 : Int) (v0_5_0 : Int) (r_ : Int) (Q' : Exit → St → Prop) (kr : ∀ (ns : List (Nat × Nat × Nat)) (s : LS) (x : Int), retX Try.prog ns [.tmp 4] s = some (aI .i64 x) → x = r_ → Q' .ret s.st) (k_x_0 : ∀ (q : Nat), q < n → ∀  (s' : LS), recN tree_Up_B q (.j1 ) = some r_ → Fits s'.st (LS.mk 35 [] []).st → Q' (.exit 0) s'.st) (h : recN tree_Up_B n (.l0 a0 a1 v0_5_0) = some r_) : W Try.prog (subC (bodyC Try.prog 19) [1, 1, 0, 1, 0]) (LS.mk 35 [(0, .t (.sl 6 (a0.map c_GApiNode))), (1, aI .i64 a1), (5, aI .i64 v0_5_0)] []).st Q' := by
  refine W_fix (σ := Int) (fun m x_ => m ≤ n ∧ recN tree_Up_B m (.l0 a0 a1 x_) = some r_) (fun x_ => LS.mk 35 [(0, .t (.sl 6 (a0.map c_GApiNode))), (1, aI .i64 a1), (5, aI .i64 x_)] []) (fun x hx => by cases hx.2) (fun _ _ => rfl) ?_ n (v0_5_0) ⟨Nat.le_refl _, h⟩
  clear h
  rintro m v0_5_0 ⟨hlt, h⟩
  replace h : tree_Up_l0_b (recN tree_Up_B m) a0 a1 v0_5_0 = some r_ := h
  unfold tree_Up_l0_b at h
  refine W_seq ?_
  refine W_seq ?_
  refine W_y (s' := LS.mk 35 [(0, .t (.sl 6 (a0.map c_GApiNode))), (1, aI .i64 a1), (5, aI .i64 v0_5_0), (22, aB (decide (v0_5_0 ≥ 0)))] []) mixed [qn0, qn0] ⟨[0, 1, 5, 22], [], [], [], [], [], []⟩ aN (by kernel_rfl) ?_
  refine W_cond (decide (v0_5_0 ≥ 0)) (by kernel_rfl) (fun hb1001 => ?_) (fun hb1001 => ?_)
  · have hx1002 := hb1001
    have h := if_t h hx1002
    refine W_skip ?_
    refine W_seq ?_
    refine W_block ?_
    refine W_seq ?_
    obtain ⟨x5_3, hx5_3, h⟩ := bind_ok h
    refine W_y (s' := LS.mk 35 [(0, .t (.sl 6 (a0.map c_GApiNode))), (1, aI .i64 a1), (5, aI .i64 v0_5_0), (33, aB (decide ((w64 (v0_5_0 + x5_3.Size)) ≥ a1)))] []) mixed [qn0, qn0, qn0, qn (.ix (Int.toNat v0_5_0) (c_GApiNode x5_3)), qn0, qn0, qn0, qn0, qn0] ⟨[0, 1, 5, 33], [], [], [], [], [], []⟩ (aC (ix_obx c_GApiNode hx5_3) aN) (by kernel_rfl) ?_
    refine W_cond (decide ((w64 (v0_5_0 + x5_3.Size)) ≥ a1)) (by kernel_rfl) (fun hb1003 => ?_) (fun hb1003 => ?_)
    · have hx1004 := hb1003
      have h := if_t h hx1004
      refine W_seq ?_
      refine W_y (s' := LS.mk 35 [(4, aI .i64 v0_5_0)] []) mixed [qn0, qn0] ⟨[4], [], [], [], [], [], []⟩ aN (by kernel_rfl) ?_
      refine W_ret ?_
      exact kr [] _ _ (by kernel_rfl) (Option.some.inj h)
    · have hx1004 := hb1003
      have h := if_f h hx1004
      refine W_skip ?_
      refine W_y (s' := LS.mk 35 [(0, .t (.sl 6 (a0.map c_GApiNode))), (1, aI .i64 a1), (5, aI .i64 (w64 (v0_5_0 - 1)))] []) mixed [qn0, qn0, qn0] ⟨[0, 1, 5], [], [], [], [], [], []⟩ aN (by kernel_rfl) ?_
      exact ⟨m, ((w64 (v0_5_0 - 1))), Nat.le_refl _, ⟨Nat.le_of_lt hlt, h⟩, convX_fits (v := ⟨[0, 1, 5], [], [], [], [], [], []⟩) (s' := LS.mk 35 [(0, .t (.sl 6 (a0.map c_GApiNode))), (1, aI .i64 a1), (5, aI .i64 (w64 (v0_5_0 - 1)))] []) (by kernel_rfl)⟩
  · have hx1002 := hb1001
    have h := if_f h hx1002
    refine W_exit ?_
    exact k_x_0 m hlt  _ h (convX_fits (v := ⟨[], [], [], [], [], [], []⟩) (s' := LS.mk 35 [] []) (by kernel_rfl))
set_option maxRecDepth 100000 in
theorem tree_Up_j1_ok (n : Nat)   (r_ : Int) (Q' : Exit → St → Prop) (kr : ∀ (ns : List (Nat × Nat × Nat)) (s : LS) (x : Int), retX Try.prog ns [.tmp 4] s = some (aI .i64 x) → x = r_ → Q' .ret s.st)  (h : recN tree_Up_B n (.j1 ) = some r_) : W Try.prog (subC (bodyC Try.prog 19) [1, 1, 1]) (LS.mk 35 [] []).st Q' := by
  cases n with
  | zero => cases h
  | succ m =>
  have hlt : m < m + 1 := Nat.lt_succ_self m
  replace h : tree_Up_j1_b (recN tree_Up_B m)  = some r_ := h
  unfold tree_Up_j1_b at h
  refine W_seq ?_
  refine W_y (s' := LS.mk 35 [(4, aI .i64 (-1))] []) mixed [qn0] ⟨[4], [], [], [], [], [], []⟩ aN (by kernel_rfl) ?_
  refine W_ret ?_
  exact kr [] _ _ (by kernel_rfl) (Option.some.inj h)
noncomputable def tree_Up (a0 : (List GApiNode)) (a1 : Int) : Option Int :=
  (if a1 < 1 then (some (-1)) else (if a1 ≥ (a0.length : Int) then (some (-1)) else ((tree_Right a0).bind fun (r1_10 : Bool) => (if r1_10 = true then tree_Up_l0 a0 a1 (w64 (a1 - 1)) else (some (-1))))))
set_option maxRecDepth 100000 in
theorem tree_Up_ok {a0 : (List GApiNode)} {a1 : Int} {r_ : Int} (h : tree_Up a0 a1 = some r_) : R_tree_Up a0 a1 r_ := by
  unfold tree_Up at h
  refine fn_pureX (fn := Try.f19) (by kernel_rfl) (c := subC (bodyC Try.prog 19) []) (by kernel_rfl) (by kernel_rfl) (Nat.le_of_ble_eq_true (by kernel_rfl)) ?_
  generalize hQ' : retQ Try.prog Try.f19 (aI .i64 r_) = Q'
  have kr : ∀ (ns : List (Nat × Nat × Nat)) (s : LS) (x : Int), retX Try.prog ns [.tmp 4] s = some (aI .i64 x) → x = r_ → Q' .ret s.st := by subst hQ'; intro ns s x hx hq; subst hq; exact ret_ok (fn := Try.f19) ns hx
  change W Try.prog _ (LS.mk 35 [(0, .t (.sl 6 (a0.map c_GApiNode))), (1, aI .i64 a1)] []).st Q'
  refine W_seq ?_
  refine W_y (s' := LS.mk 35 [(0, .t (.sl 6 (a0.map c_GApiNode))), (1, aI .i64 a1)] []) mixed [qn0] ⟨[0, 1], [], [], [], [], [], []⟩ aN (by kernel_rfl) ?_
  refine W_seq ?_
  refine W_seq ?_
  refine (Bool.eq_false_or_eq_true (decide (a1 < 1))).elim (fun hb1 => ?_) (fun hb1 => ?_)
  · have hx2 := hb1
    have h := if_t h hx2
    refine W_y (s' := LS.mk 35 [(0, .t (.sl 6 (a0.map c_GApiNode))), (1, aI .i64 a1), (18, aB true)] []) mixed [qn0, qn0, qn0, qt0, qt0, qt0, qt0, qn (.dec true), qn0, qn0, qn0, qn0, qn0] ⟨[0, 1, 18], [], [], [], [], [], []⟩ (aC hx2 (aC hx2 (aC hx2 (aC hx2 (aC hx2 aN))))) (by kernel_rfl) ?_
    refine W_cond true (by kernel_rfl) (fun _ => ?_) (fun hb => nomatch ((rfl : true = true).symm.trans hb))
    refine W_seq ?_
    refine W_y (s' := LS.mk 35 [(4, aI .i64 (-1))] []) mixed [qn0] ⟨[4], [], [], [], [], [], []⟩ aN (by kernel_rfl) ?_
    refine W_ret ?_
    exact kr [] _ _ (by kernel_rfl) (Option.some.inj h)
  · have hx2 := hb1
    have h := if_f h hx2
    refine (Bool.eq_false_or_eq_true (decide (a1 ≥ (a0.length : Int)))).elim (fun hb3 => ?_) (fun hb3 => ?_)
    · have hx4 := hb3
      have h := if_t h hx4
      refine W_y (s' := LS.mk 35 [(0, .t (.sl 6 (a0.map c_GApiNode))), (1, aI .i64 a1), (18, aB true)] []) mixed [qn0, qn0, qn0, qf0, qf0, qf (.len a0.length), qf0, qn (.dec false), qn0, qt0, qt0, qt0, qn (.dec true)] ⟨[0, 1, 18], [], [], [], [], [], []⟩ (aC hx2 (aC hx2 (aC hx2 (aC (len_obx c_GApiNode a0) (aC hx2 (aC hx2 (aC hx4 (aC hx4 (aC hx4 (aC hx4 aN)))))))))) (by kernel_rfl) ?_
      refine W_cond true (by kernel_rfl) (fun _ => ?_) (fun hb => nomatch ((rfl : true = true).symm.trans hb))
      refine W_seq ?_
      refine W_y (s' := LS.mk 35 [(4, aI .i64 (-1))] []) mixed [qn0] ⟨[4], [], [], [], [], [], []⟩ aN (by kernel_rfl) ?_
      refine W_ret ?_
      exact kr [] _ _ (by kernel_rfl) (Option.some.inj h)
    · have hx4 := hb3
      have h := if_f h hx4
      obtain ⟨r1_10, hr1_10, h⟩ := bind_ok h
      have hr1_10 := tree_Right_ok hr1_10
      refine W_y (s' := LS.mk 35 [(0, .t (.sl 6 (a0.map c_GApiNode))), (1, aI .i64 a1), (18, aB (!r1_10))] []) mixed [qn0, qn0, qn0, qf0, qf0, qf (.len a0.length), qf0, qn (.dec false), qn0, qf0, qf (.call [] (aB r1_10)), qf0, qn (.dec false)] ⟨[0, 1, 18], [], [], [], [], [], []⟩ (aC hx2 (aC hx2 (aC hx2 (aC (len_obx c_GApiNode a0) (aC hx2 (aC hx2 (aC hx4 (aC hx4 (aC hr1_10 (aC hx4 (aC hx4 aN))))))))))) (by kernel_rfl) ?_
      refine W_cond (!r1_10) (by kernel_rfl) (fun hb5 => ?_) (fun hb5 => ?_)
      · have hx6 : r1_10 = false := (bnot_t hb5)
        have h := ib_f h hx6
        refine W_seq ?_
        refine W_y (s' := LS.mk 35 [(4, aI .i64 (-1))] []) mixed [qn0] ⟨[4], [], [], [], [], [], []⟩ aN (by kernel_rfl) ?_
        refine W_ret ?_
        exact kr [] _ _ (by kernel_rfl) (Option.some.inj h)
      · have hx6 : r1_10 = true := (bnot_f hb5)
        have h := ib_t h hx6
        refine W_skip ?_
        refine W_seq ?_
        refine W_seq ?_
        refine W_y (s' := LS.mk 35 [(0, .t (.sl 6 (a0.map c_GApiNode))), (1, aI .i64 a1), (5, aI .i64 (w64 (a1 - 1)))] []) mixed [qn0, qn0, qn0] ⟨[0, 1, 5], [], [], [], [], [], []⟩ aN (by kernel_rfl) ?_
        refine W_block ?_
        obtain ⟨n, h⟩ := fix_rec h
        exact W_conv (s' := LS.mk 35 [(0, .t (.sl 6 (a0.map c_GApiNode))), (1, aI .i64 a1), (5, aI .i64 (w64 (a1 - 1)))] []) ⟨[0, 1, 5], [], [], [], [], [], []⟩ (by kernel_rfl) (tree_Up_l0_ok n a0 a1 (w64 (a1 - 1)) r_ _ kr (fun q1 hq1  s' h hf => W_pre hf (tree_Up_j1_ok q1 r_ _ kr h)) h)
def R_hindcastref04_kind (a0 : Int) (r : Int) : Prop := FnP Try.prog 54 [aI .u8 a0] (aI .i64 r)
noncomputable def hindcastref04_kind_j2  : Option Int :=
  (some 0)
noncomputable def hindcastref04_kind_j0 (a0 : Int) : Option Int :=
  (if a0 ≥ 48 then (if a0 ≤ 57 then (some 3) else hindcastref04_kind_j2) else hindcastref04_kind_j2)
noncomputable def hindcastref04_kind_j1 (a0 : Int) : Option Int :=
  (if a0 ≥ 65 then (if a0 ≤ 90 then (some 2) else hindcastref04_kind_j0 a0) else hindcastref04_kind_j0 a0)
set_option maxRecDepth 100000 in
theorem hindcastref04_kind_j0_ok (a0 : Int) (r_ : Int) (Q' : Exit → St → Prop) (kr : ∀ (ns : List (Nat × Nat × Nat)) (s : LS) (x : Int), retX Try.prog ns [.tmp 2] s = some (aI .i64 x) → x = r_ → Q' .ret s.st) (k_n : ∀  (s' : LS), hindcastref04_kind_j2  = some r_ → Fits s'.st (LS.mk 28 [] []).st → Q' .normal s'.st) (h : hindcastref04_kind_j0 a0 = some r_) : W Try.prog (subC (bodyC Try.prog 54) [1, 0, 0, 1, 1, 1, 1]) (LS.mk 28 [(0, aI .u8 a0)] []).st Q' := by
  unfold hindcastref04_kind_j0 at h
  refine W_seq ?_
  refine (Bool.eq_false_or_eq_true (decide (a0 ≥ 48))).elim (fun hb1001 => ?_) (fun hb1001 => ?_)
  · have hx1002 := hb1001
    have h := if_t h hx1002
    refine W_y (s' := LS.mk 28 [(21, aB (decide (a0 ≤ 57)))] []) mixed [qn0, qn0, qn0, qt0, qt0, qn (.dec true), qn0] ⟨[21], [], [], [], [], [], []⟩ (aC hx1002 (aC hx1002 (aC hx1002 aN))) (by kernel_rfl) ?_
    refine W_cond (decide (a0 ≤ 57)) (by kernel_rfl) (fun hb1003 => ?_) (fun hb1003 => ?_)
    · have hx1004 := hb1003
      have h := if_t h hx1004
      refine W_seq ?_
      refine W_y (s' := LS.mk 28 [(2, aI .i64 3)] []) mixed [qn0] ⟨[2], [], [], [], [], [], []⟩ aN (by kernel_rfl) ?_
      refine W_ret ?_
      exact kr [] _ _ (by kernel_rfl) (Option.some.inj h)
    · have hx1004 := hb1003
      have h := if_f h hx1004
      refine W_skip ?_
      exact k_n  _ h (convX_fits (v := ⟨[], [], [], [], [], [], []⟩) (s' := LS.mk 28 [] []) (by kernel_rfl))
  · have hx1002 := hb1001
    have h := if_f h hx1002
    refine W_y (s' := LS.mk 28 [(21, aB false)] []) mixed [qn0, qn0, qn0, qf0, qf0, qn (.dec false), qn0] ⟨[21], [], [], [], [], [], []⟩ (aC hx1002 (aC hx1002 (aC hx1002 aN))) (by kernel_rfl) ?_
    refine W_cond false (by kernel_rfl) (fun hb => nomatch ((rfl : false = false).symm.trans hb)) (fun _ => ?_)
    refine W_skip ?_
    exact k_n  _ h (convX_fits (v := ⟨[], [], [], [], [], [], []⟩) (s' := LS.mk 28 [] []) (by kernel_rfl))
set_option maxRecDepth 100000 in
theorem hindcastref04_kind_j2_ok  (r_ : Int) (Q' : Exit → St → Prop) (kr : ∀ (ns : List (Nat × Nat × Nat)) (s : LS) (x : Int), retX Try.prog ns [.tmp 2] s = some (aI .i64 x) → x = r_ → Q' .ret s.st)  (h : hindcastref04_kind_j2  = some r_) : W Try.prog (subC (bodyC Try.prog 54) [1, 1]) (LS.mk 28 [] []).st Q' := by
  unfold hindcastref04_kind_j2 at h
  refine W_seq ?_
  refine W_y (s' := LS.mk 28 [(2, aI .i64 0)] []) mixed [qn0] ⟨[2], [], [], [], [], [], []⟩ aN (by kernel_rfl) ?_
  refine W_ret ?_
  exact kr [] _ _ (by kernel_rfl) (Option.some.inj h)
set_option maxRecDepth 100000 in
theorem hindcastref04_kind_j1_ok (a0 : Int) (r_ : Int) (Q' : Exit → St → Prop) (kr : ∀ (ns : List (Nat × Nat × Nat)) (s : LS) (x : Int), retX Try.prog ns [.tmp 2] s = some (aI .i64 x) → x = r_ → Q' .ret s.st) (k_n : ∀  (s' : LS), hindcastref04_kind_j2  = some r_ → Fits s'.st (LS.mk 28 [] []).st → Q' .normal s'.st) (h : hindcastref04_kind_j1 a0 = some r_) : W Try.prog (subC (bodyC Try.prog 54) [1, 0, 0, 1, 1]) (LS.mk 28 [(0, aI .u8 a0)] []).st Q' := by
  unfold hindcastref04_kind_j1 at h
  refine W_seq ?_
  refine (Bool.eq_false_or_eq_true (decide (a0 ≥ 65))).elim (fun hb2001 => ?_) (fun hb2001 => ?_)
  · have hx2002 := hb2001
    have h := if_t h hx2002
    refine W_y (s' := LS.mk 28 [(0, aI .u8 a0), (14, aB (decide (a0 ≤ 90)))] []) mixed [qn0, qn0, qn0, qt0, qt0, qn (.dec true), qn0] ⟨[0, 14], [], [], [], [], [], []⟩ (aC hx2002 (aC hx2002 (aC hx2002 aN))) (by kernel_rfl) ?_
    refine W_cond (decide (a0 ≤ 90)) (by kernel_rfl) (fun hb2003 => ?_) (fun hb2003 => ?_)
    · have hx2004 := hb2003
      have h := if_t h hx2004
      refine W_seq ?_
      refine W_y (s' := LS.mk 28 [(2, aI .i64 2)] []) mixed [qn0] ⟨[2], [], [], [], [], [], []⟩ aN (by kernel_rfl) ?_
      refine W_ret ?_
      exact kr [] _ _ (by kernel_rfl) (Option.some.inj h)
    · have hx2004 := hb2003
      have h := if_f h hx2004
      exact W_conv (s' := LS.mk 28 [(0, aI .u8 a0)] []) ⟨[0], [], [], [], [], [], []⟩ (by kernel_rfl) (hindcastref04_kind_j0_ok a0 r_ _ kr (fun  s' h hf => k_n  s' h hf) h)
  · have hx2002 := hb2001
    have h := if_f h hx2002
    refine W_y (s' := LS.mk 28 [(0, aI .u8 a0), (14, aB false)] []) mixed [qn0, qn0, qn0, qf0, qf0, qn (.dec false), qn0] ⟨[0, 14], [], [], [], [], [], []⟩ (aC hx2002 (aC hx2002 (aC hx2002 aN))) (by kernel_rfl) ?_
    refine W_cond false (by kernel_rfl) (fun hb => nomatch ((rfl : false = false).symm.trans hb)) (fun _ => ?_)
    exact W_conv (s' := LS.mk 28 [(0, aI .u8 a0)] []) ⟨[0], [], [], [], [], [], []⟩ (by kernel_rfl) (hindcastref04_kind_j0_ok a0 r_ _ kr (fun  s' h hf => k_n  s' h hf) h)
noncomputable def hindcastref04_kind (a0 : Int) : Option Int :=
  (if a0 ≥ 97 then (if a0 ≤ 122 then (some 1) else (if a0 = 95 then (some 1) else hindcastref04_kind_j1 a0)) else (if a0 = 95 then (some 1) else hindcastref04_kind_j1 a0))
set_option maxRecDepth 100000 in
theorem hindcastref04_kind_ok {a0 : Int} {r_ : Int} (h : hindcastref04_kind a0 = some r_) : R_hindcastref04_kind a0 r_ := by
  unfold hindcastref04_kind at h
  refine fn_pureX (fn := Try.f54) (by kernel_rfl) (c := subC (bodyC Try.prog 54) []) (by kernel_rfl) (by kernel_rfl) (Nat.le_of_ble_eq_true (by kernel_rfl)) ?_
  generalize hQ' : retQ Try.prog Try.f54 (aI .i64 r_) = Q'
  have kr : ∀ (ns : List (Nat × Nat × Nat)) (s : LS) (x : Int), retX Try.prog ns [.tmp 2] s = some (aI .i64 x) → x = r_ → Q' .ret s.st := by subst hQ'; intro ns s x hx hq; subst hq; exact ret_ok (fn := Try.f54) ns hx
  change W Try.prog _ (LS.mk 28 [(0, aI .u8 a0)] []).st Q'
  refine W_seq ?_
  refine W_y (s' := LS.mk 28 [(0, aI .u8 a0)] []) mixed [qn0] ⟨[0], [], [], [], [], [], []⟩ aN (by kernel_rfl) ?_
  refine W_seq ?_
  refine W_block ?_
  refine W_seq ?_
  refine (Bool.eq_false_or_eq_true (decide (a0 ≥ 97))).elim (fun hb1 => ?_) (fun hb1 => ?_)
  · have hx2 := hb1
    have h := if_t h hx2
    refine (Bool.eq_false_or_eq_true (decide (a0 ≤ 122))).elim (fun hb3 => ?_) (fun hb3 => ?_)
    · have hx4 := hb3
      have h := if_t h hx4
      refine W_y (s' := LS.mk 28 [(0, aI .u8 a0), (3, aB true)] []) mixed [qn0, qn0, qn0, qt0, qt0, qn (.dec true), qn0, qt0, qt0, qn (.dec true), qn0] ⟨[0, 3], [], [], [], [], [], []⟩ (aC hx2 (aC hx2 (aC hx2 (aC hx4 (aC hx4 (aC hx4 aN)))))) (by kernel_rfl) ?_
      refine W_cond true (by kernel_rfl) (fun _ => ?_) (fun hb => nomatch ((rfl : true = true).symm.trans hb))
      refine W_seq ?_
      refine W_y (s' := LS.mk 28 [(2, aI .i64 1)] []) mixed [qn0] ⟨[2], [], [], [], [], [], []⟩ aN (by kernel_rfl) ?_
      refine W_ret ?_
      exact kr [] _ _ (by kernel_rfl) (Option.some.inj h)
    · have hx4 := hb3
      have h := if_f h hx4
      refine W_y (s' := LS.mk 28 [(0, aI .u8 a0), (3, aB (decide (a0 = 95)))] []) mixed [qn0, qn0, qn0, qt0, qt0, qn (.dec true), qn0, qf0, qf0, qn (.dec false), qn0] ⟨[0, 3], [], [], [], [], [], []⟩ (aC hx2 (aC hx2 (aC hx2 (aC hx4 (aC hx4 (aC hx4 aN)))))) (by kernel_rfl) ?_
      refine W_cond (decide (a0 = 95)) (by kernel_rfl) (fun hb5 => ?_) (fun hb5 => ?_)
      · have hx6 := hb5
        have h := if_t h hx6
        refine W_seq ?_
        refine W_y (s' := LS.mk 28 [(2, aI .i64 1)] []) mixed [qn0] ⟨[2], [], [], [], [], [], []⟩ aN (by kernel_rfl) ?_
        refine W_ret ?_
        exact kr [] _ _ (by kernel_rfl) (Option.some.inj h)
      · have hx6 := hb5
        have h := if_f h hx6
        exact W_conv (s' := LS.mk 28 [(0, aI .u8 a0)] []) ⟨[0], [], [], [], [], [], []⟩ (by kernel_rfl) (hindcastref04_kind_j1_ok a0 r_ _ kr (fun  s' h hf => W_pre hf (hindcastref04_kind_j2_ok r_ _ kr h)) h)
  · have hx2 := hb1
    have h := if_f h hx2
    refine W_y (s' := LS.mk 28 [(0, aI .u8 a0), (3, aB (decide (a0 = 95)))] []) mixed [qn0, qn0, qn0, qf0, qf0, qn (.dec false), qn0, qn0, qn0, qn0, qn0] ⟨[0, 3], [], [], [], [], [], []⟩ (aC hx2 (aC hx2 (aC hx2 aN))) (by kernel_rfl) ?_
    refine W_cond (decide (a0 = 95)) (by kernel_rfl) (fun hb7 => ?_) (fun hb7 => ?_)
    · have hx8 := hb7
      have h := if_t h hx8
      refine W_seq ?_
      refine W_y (s' := LS.mk 28 [(2, aI .i64 1)] []) mixed [qn0] ⟨[2], [], [], [], [], [], []⟩ aN (by kernel_rfl) ?_
      refine W_ret ?_
      exact kr [] _ _ (by kernel_rfl) (Option.some.inj h)
    · have hx8 := hb7
      have h := if_f h hx8
      exact W_conv (s' := LS.mk 28 [(0, aI .u8 a0)] []) ⟨[0], [], [], [], [], [], []⟩ (by kernel_rfl) (hindcastref04_kind_j1_ok a0 r_ _ kr (fun  s' h hf => W_pre hf (hindcastref04_kind_j2_ok r_ _ kr h)) h)
def R_hindcastref04_inner (a0 : (List UInt8)) (a1 : Int) (r : Int) : Prop := FnP Try.prog 55 [aS a0, aI .i64 a1] (aI .i64 r)
inductive hindcastref04_inner_C where
  | l0 (a0 : (List UInt8)) (v0_1_0 : Int)
  | j1 (v0_1_0 : Int)
abbrev hindcastref04_inner_C_T : hindcastref04_inner_C → Type := fun _ => Int
noncomputable def hindcastref04_inner_l0_b (g : (i : hindcastref04_inner_C) → Option (hindcastref04_inner_C_T i)) (a0 : (List UInt8)) (v0_1_0 : Int) : Option Int :=
  (if v0_1_0 < (a0.length : Int) then ((getI a0 v0_1_0).bind fun (x1_7 : UInt8) => ((hindcastref04_kind (x1_7.toNat : Int)).bind fun (r1_8 : Int) => (if r1_8 > 0 then g (.l0 a0 (w64 (v0_1_0 + 1))) else g (.j1 v0_1_0)))) else g (.j1 v0_1_0))
noncomputable def hindcastref04_inner_j1_b (g : (i : hindcastref04_inner_C) → Option (hindcastref04_inner_C_T i)) (v0_1_0 : Int) : Option Int :=
  (some v0_1_0)
noncomputable def hindcastref04_inner_B (g : (i : hindcastref04_inner_C) → Option (hindcastref04_inner_C_T i)) : (i : hindcastref04_inner_C) → Option (hindcastref04_inner_C_T i)
  | .l0 a0 v0_1_0 => hindcastref04_inner_l0_b g a0 v0_1_0
  | .j1 v0_1_0 => hindcastref04_inner_j1_b g v0_1_0
theorem hindcastref04_inner_B_fin (i : hindcastref04_inner_C) : Fin1 (fun g => hindcastref04_inner_B g i) := by
  cases i with
  | l0 a0 v0_1_0 => show Fin1 (fun g => hindcastref04_inner_l0_b g a0 v0_1_0); unfold hindcastref04_inner_l0_b; repeat (first | refine fin_bind ?_ (fun _ => ?_) | refine fin_ite ?_ ?_ | exact fin_ask _ | exact fin_const _)
  | j1 v0_1_0 => show Fin1 (fun g => hindcastref04_inner_j1_b g v0_1_0); unfold hindcastref04_inner_j1_b; repeat (first | refine fin_bind ?_ (fun _ => ?_) | refine fin_ite ?_ ?_ | exact fin_ask _ | exact fin_const _)
noncomputable def hindcastref04_inner_l0 (a0 : (List UInt8)) (v0_1_0 : Int) : Option Int := fixD hindcastref04_inner_B (.l0 a0 v0_1_0)
noncomputable def hindcastref04_inner_j1 (v0_1_0 : Int) : Option Int := fixD hindcastref04_inner_B (.j1 v0_1_0)
theorem hindcastref04_inner_l0_eq (a0 : (List UInt8)) (v0_1_0 : Int) : hindcastref04_inner_l0 a0 v0_1_0 =
  (if v0_1_0 < (a0.length : Int) then ((getI a0 v0_1_0).bind fun (x1_7 : UInt8) => ((hindcastref04_kind (x1_7.toNat : Int)).bind fun (r1_8 : Int) => (if r1_8 > 0 then hindcastref04_inner_l0 a0 (w64 (v0_1_0 + 1)) else hindcastref04_inner_j1 v0_1_0))) else hindcastref04_inner_j1 v0_1_0) := fix_eq hindcastref04_inner_B_fin _
theorem hindcastref04_inner_j1_eq (v0_1_0 : Int) : hindcastref04_inner_j1 v0_1_0 =
  (some v0_1_0) := fix_eq hindcastref04_inner_B_fin _
set_option maxRecDepth 100000 in
theorem hindcastref04_inner_l0_ok (n : Nat)  (a0 : (List UInt8)) (v0_1_0 : Int) (r_ : Int) (Q' : Exit → St → Prop) (kr : ∀ (ns : List (Nat × Nat × Nat)) (s : LS) (x : Int), retX Try.prog ns [.tmp 4] s = some (aI .i64 x) → x = r_ → Q' .ret s.st) (k_x_0 : ∀ (q : Nat), q < n → ∀ (v0_1_0 : Int) (s' : LS), recN hindcastref04_inner_B q (.j1 v0_1_0) = some r_ → Fits s'.st (LS.mk 19 [(1, aI .i64 v0_1_0)] []).st → Q' (.exit 0) s'.st) (h : recN hindcastref04_inner_B n (.l0 a0 v0_1_0) = some r_) : W Try.prog (subC (bodyC Try.prog 55) [1, 0, 0]) (LS.mk 19 [(0, aS a0), (1, aI .i64 v0_1_0)] []).st Q' := by
  refine W_fix (σ := Int) (fun m x_ => m ≤ n ∧ recN hindcastref04_inner_B m (.l0 a0 x_) = some r_) (fun x_ => LS.mk 19 [(0, aS a0), (1, aI .i64 x_)] []) (fun x hx => by cases hx.2) (fun _ _ => rfl) ?_ n (v0_1_0) ⟨Nat.le_refl _, h⟩
  clear h
  rintro m v0_1_0 ⟨hlt, h⟩
  replace h : hindcastref04_inner_l0_b (recN hindcastref04_inner_B m) a0 v0_1_0 = some r_ := h
  unfold hindcastref04_inner_l0_b at h
  refine W_seq ?_
  refine W_seq ?_
  refine (Bool.eq_false_or_eq_true (decide (v0_1_0 < (a0.length : Int)))).elim (fun hb1001 => ?_) (fun hb1001 => ?_)
  · have hx1002 := hb1001
    have h := if_t h hx1002
    obtain ⟨x1_7, hx1_7, h⟩ := bind_ok h
    obtain ⟨r1_8, hr1_8, h⟩ := bind_ok h
    have hr1_8 := hindcastref04_kind_ok hr1_8
    refine W_y (s' := LS.mk 19 [(0, aS a0), (1, aI .i64 v0_1_0), (15, aB (decide (r1_8 > 0)))] []) mixed [qn0, qn0, qn0, qn0, qn0, qt0, qt0, qt (.sx (Int.toNat v0_1_0) x1_7), qt (.call [] (aI .i64 r1_8)), qt0, qn (.dec true)] ⟨[0, 1, 15], [], [], [], [], [], []⟩ (aC hx1002 (aC hx1002 (aC hx1002 (aC (sx_ob hx1_7) (aC hx1002 (aC hr1_8 (aC hx1002 (aC hx1002 aN)))))))) (by kernel_rfl) ?_
    refine W_cond (decide (r1_8 > 0)) (by kernel_rfl) (fun hb1003 => ?_) (fun hb1003 => ?_)
    · have hx1004 := hb1003
      have h := if_t h hx1004
      refine W_skip ?_
      refine W_block ?_
      refine W_y (s' := LS.mk 19 [(0, aS a0), (1, aI .i64 (w64 (v0_1_0 + 1)))] []) mixed [qn0, qn0, qn0] ⟨[0, 1], [], [], [], [], [], []⟩ aN (by kernel_rfl) ?_
      exact ⟨m, ((w64 (v0_1_0 + 1))), Nat.le_refl _, ⟨Nat.le_of_lt hlt, h⟩, convX_fits (v := ⟨[0, 1], [], [], [], [], [], []⟩) (s' := LS.mk 19 [(0, aS a0), (1, aI .i64 (w64 (v0_1_0 + 1)))] []) (by kernel_rfl)⟩
    · have hx1004 := hb1003
      have h := if_f h hx1004
      refine W_exit ?_
      exact k_x_0 m hlt v0_1_0 _ h (convX_fits (v := ⟨[1], [], [], [], [], [], []⟩) (s' := LS.mk 19 [(1, aI .i64 v0_1_0)] []) (by kernel_rfl))
  · have hx1002 := hb1001
    have h := if_f h hx1002
    refine W_y (s' := LS.mk 19 [(0, aS a0), (1, aI .i64 v0_1_0), (15, aB false)] []) mixed [qn0, qn0, qn0, qn0, qn0, qf0, qf0, qf0, qf0, qf0, qn (.dec false)] ⟨[0, 1, 15], [], [], [], [], [], []⟩ (aC hx1002 (aC hx1002 (aC hx1002 (aC hx1002 (aC hx1002 (aC hx1002 aN)))))) (by kernel_rfl) ?_
    refine W_cond false (by kernel_rfl) (fun hb => nomatch ((rfl : false = false).symm.trans hb)) (fun _ => ?_)
    refine W_exit ?_
    exact k_x_0 m hlt v0_1_0 _ h (convX_fits (v := ⟨[1], [], [], [], [], [], []⟩) (s' := LS.mk 19 [(1, aI .i64 v0_1_0)] []) (by kernel_rfl))
set_option maxRecDepth 100000 in
theorem hindcastref04_inner_j1_ok (n : Nat)  (v0_1_0 : Int) (r_ : Int) (Q' : Exit → St → Prop) (kr : ∀ (ns : List (Nat × Nat × Nat)) (s : LS) (x : Int), retX Try.prog ns [.tmp 4] s = some (aI .i64 x) → x = r_ → Q' .ret s.st)  (h : recN hindcastref04_inner_B n (.j1 v0_1_0) = some r_) : W Try.prog (subC (bodyC Try.prog 55) [1, 1]) (LS.mk 19 [(1, aI .i64 v0_1_0)] []).st Q' := by
  cases n with
  | zero => cases h
  | succ m =>
  have hlt : m < m + 1 := Nat.lt_succ_self m
  replace h : hindcastref04_inner_j1_b (recN hindcastref04_inner_B m) v0_1_0 = some r_ := h
  unfold hindcastref04_inner_j1_b at h
  refine W_seq ?_
  refine W_y (s' := LS.mk 19 [(4, aI .i64 v0_1_0)] []) mixed [qn0, qn0] ⟨[4], [], [], [], [], [], []⟩ aN (by kernel_rfl) ?_
  refine W_ret ?_
  exact kr [] _ _ (by kernel_rfl) (Option.some.inj h)
noncomputable def hindcastref04_inner (a0 : (List UInt8)) (a1 : Int) : Option Int :=
  hindcastref04_inner_l0 a0 a1
set_option maxRecDepth 100000 in
theorem hindcastref04_inner_ok {a0 : (List UInt8)} {a1 : Int} {r_ : Int} (h : hindcastref04_inner a0 a1 = some r_) : R_hindcastref04_inner a0 a1 r_ := by
  unfold hindcastref04_inner at h
  refine fn_pureX (fn := Try.f55) (by kernel_rfl) (c := subC (bodyC Try.prog 55) []) (by kernel_rfl) (by kernel_rfl) (Nat.le_of_ble_eq_true (by kernel_rfl)) ?_
  generalize hQ' : retQ Try.prog Try.f55 (aI .i64 r_) = Q'
  have kr : ∀ (ns : List (Nat × Nat × Nat)) (s : LS) (x : Int), retX Try.prog ns [.tmp 4] s = some (aI .i64 x) → x = r_ → Q' .ret s.st := by subst hQ'; intro ns s x hx hq; subst hq; exact ret_ok (fn := Try.f55) ns hx
  change W Try.prog _ (LS.mk 19 [(0, aS a0), (1, aI .i64 a1)] []).st Q'
  refine W_seq ?_
  refine W_y (s' := LS.mk 19 [(0, aS a0), (1, aI .i64 a1)] []) mixed [qn0] ⟨[0, 1], [], [], [], [], [], []⟩ aN (by kernel_rfl) ?_
  refine W_seq ?_
  refine W_block ?_
  obtain ⟨n, h⟩ := fix_rec h
  exact W_conv (s' := LS.mk 19 [(0, aS a0), (1, aI .i64 a1)] []) ⟨[0, 1], [], [], [], [], [], []⟩ (by kernel_rfl) (hindcastref04_inner_l0_ok n a0 a1 r_ _ kr (fun q1 hq1 v0_1_0 s' h hf => W_pre hf (hindcastref04_inner_j1_ok q1 v0_1_0 r_ _ kr h)) h)
end Go.Proofs.Ytahioekdpndohaa
