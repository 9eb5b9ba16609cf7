/- Functions of the program, lifted. -/
import Derived.Test.YtahioekdpndohaaLf3
namespace Go.Proofs.Ytahioekdpndohaa
open Go.RowKit
set_option linter.unusedVariables false
set_option maxHeartbeats 4000000
def R_hindcastlaw05_TreeOnce (a0 : (List GApiNode)) (r : Bool) : Prop := FnP Try.prog 6 [.t (.sl 6 (a0.map c_GApiNode))] (aB r)
inductive hindcastlaw05_TreeOnce_C where
  | j0 
  | l1 (a0 : (List GApiNode)) (v1_22_0 : Int) (w1_1003 : (List Int))
  | l2 (a0 : (List GApiNode)) (v2_4_0 : Int) (v2_22_0 : Int) (r7_2 : (List Int)) (v2_30_0 : Int) (w2_1003 : (List Int))
  | j3 (a0 : (List GApiNode)) (w3_1003 : (List Int))
  | j4 (a0 : (List GApiNode)) (v4_22_0 : Int) (w2_1003 : (List Int))
  | l5 (a0 : (List GApiNode)) (v5_7_0 : Int) (w5_1003 : (List Int))
  | j6 (a0 : (List GApiNode))
abbrev hindcastlaw05_TreeOnce_C_T : hindcastlaw05_TreeOnce_C → Type := fun _ => Bool
noncomputable def hindcastlaw05_TreeOnce_j0_b (g : (i : hindcastlaw05_TreeOnce_C) → Option (hindcastlaw05_TreeOnce_C_T i))  : Option Bool :=
  ((hindcastlaw05_awake).bind fun (r2_0 : Bool) => (some r2_0))
noncomputable def hindcastlaw05_TreeOnce_l1_b (g : (i : hindcastlaw05_TreeOnce_C) → Option (hindcastlaw05_TreeOnce_C_T i)) (a0 : (List GApiNode)) (v1_22_0 : Int) (w1_1003 : (List Int)) : Option Bool :=
  (if v1_22_0 < (a0.length : Int) then ((tree_Kids a0 v1_22_0).bind fun (r7_2 : (List Int)) => g (.l2 a0 v1_22_0 v1_22_0 r7_2 0 w1_1003)) else g (.j3 a0 w1_1003))
noncomputable def hindcastlaw05_TreeOnce_l2_b (g : (i : hindcastlaw05_TreeOnce_C) → Option (hindcastlaw05_TreeOnce_C_T i)) (a0 : (List GApiNode)) (v2_4_0 : Int) (v2_22_0 : Int) (r7_2 : (List Int)) (v2_30_0 : Int) (w2_1003 : (List Int)) : Option Bool :=
  (if v2_30_0 < (r7_2.length : Int) then ((getI r7_2 v2_30_0).bind fun (x11_2 : Int) => (if x11_2 < 1 then (some false) else (if x11_2 ≥ (a0.length : Int) then (some false) else ((getI w2_1003 x11_2).bind fun (x11_20 : Int) => (if x11_20 = 0 then ((tree_Up a0 x11_2).bind fun (r11_30 : Int) => (if r11_30 = v2_4_0 then g (.l2 a0 v2_4_0 v2_22_0 r7_2 (w64 (v2_30_0 + 1)) (w2_1003.set (Int.toNat x11_2) (w64 (v2_4_0 + 1)))) else (some false))) else (some false)))))) else g (.j4 a0 v2_22_0 w2_1003))
noncomputable def hindcastlaw05_TreeOnce_j3_b (g : (i : hindcastlaw05_TreeOnce_C) → Option (hindcastlaw05_TreeOnce_C_T i)) (a0 : (List GApiNode)) (w3_1003 : (List Int)) : Option Bool :=
  g (.l5 a0 1 w3_1003)
noncomputable def hindcastlaw05_TreeOnce_j4_b (g : (i : hindcastlaw05_TreeOnce_C) → Option (hindcastlaw05_TreeOnce_C_T i)) (a0 : (List GApiNode)) (v4_22_0 : Int) (w2_1003 : (List Int)) : Option Bool :=
  g (.l1 a0 (w64 (v4_22_0 + 1)) w2_1003)
noncomputable def hindcastlaw05_TreeOnce_l5_b (g : (i : hindcastlaw05_TreeOnce_C) → Option (hindcastlaw05_TreeOnce_C_T i)) (a0 : (List GApiNode)) (v5_7_0 : Int) (w5_1003 : (List Int)) : Option Bool :=
  (if v5_7_0 < (a0.length : Int) then ((getI w5_1003 v5_7_0).bind fun (x18_2 : Int) => (if x18_2 = 0 then (some false) else g (.l5 a0 (w64 (v5_7_0 + 1)) w5_1003))) else g (.j6 a0))
noncomputable def hindcastlaw05_TreeOnce_j6_b (g : (i : hindcastlaw05_TreeOnce_C) → Option (hindcastlaw05_TreeOnce_C_T i)) (a0 : (List GApiNode)) : Option Bool :=
  ((tree_Up a0 0).bind fun (r21_1 : Int) => (if r21_1 = (-1) then ((hindcastlaw05_awake).bind fun (r21_4 : Bool) => (some r21_4)) else (some false)))
noncomputable def hindcastlaw05_TreeOnce_B (g : (i : hindcastlaw05_TreeOnce_C) → Option (hindcastlaw05_TreeOnce_C_T i)) : (i : hindcastlaw05_TreeOnce_C) → Option (hindcastlaw05_TreeOnce_C_T i)
  | .j0  => hindcastlaw05_TreeOnce_j0_b g 
  | .l1 a0 v1_22_0 w1_1003 => hindcastlaw05_TreeOnce_l1_b g a0 v1_22_0 w1_1003
  | .l2 a0 v2_4_0 v2_22_0 r7_2 v2_30_0 w2_1003 => hindcastlaw05_TreeOnce_l2_b g a0 v2_4_0 v2_22_0 r7_2 v2_30_0 w2_1003
  | .j3 a0 w3_1003 => hindcastlaw05_TreeOnce_j3_b g a0 w3_1003
  | .j4 a0 v4_22_0 w2_1003 => hindcastlaw05_TreeOnce_j4_b g a0 v4_22_0 w2_1003
  | .l5 a0 v5_7_0 w5_1003 => hindcastlaw05_TreeOnce_l5_b g a0 v5_7_0 w5_1003
  | .j6 a0 => hindcastlaw05_TreeOnce_j6_b g a0
theorem hindcastlaw05_TreeOnce_B_fin (i : hindcastlaw05_TreeOnce_C) : Fin1 (fun g => hindcastlaw05_TreeOnce_B g i) := by
  cases i with
  | j0  => show Fin1 (fun g => hindcastlaw05_TreeOnce_j0_b g ); unfold hindcastlaw05_TreeOnce_j0_b; repeat (first | refine fin_bind ?_ (fun _ => ?_) | refine fin_ite ?_ ?_ | exact fin_ask _ | exact fin_const _)
  | l1 a0 v1_22_0 w1_1003 => show Fin1 (fun g => hindcastlaw05_TreeOnce_l1_b g a0 v1_22_0 w1_1003); unfold hindcastlaw05_TreeOnce_l1_b; repeat (first | refine fin_bind ?_ (fun _ => ?_) | refine fin_ite ?_ ?_ | exact fin_ask _ | exact fin_const _)
  | l2 a0 v2_4_0 v2_22_0 r7_2 v2_30_0 w2_1003 => show Fin1 (fun g => hindcastlaw05_TreeOnce_l2_b g a0 v2_4_0 v2_22_0 r7_2 v2_30_0 w2_1003); unfold hindcastlaw05_TreeOnce_l2_b; repeat (first | refine fin_bind ?_ (fun _ => ?_) | refine fin_ite ?_ ?_ | exact fin_ask _ | exact fin_const _)
  | j3 a0 w3_1003 => show Fin1 (fun g => hindcastlaw05_TreeOnce_j3_b g a0 w3_1003); unfold hindcastlaw05_TreeOnce_j3_b; repeat (first | refine fin_bind ?_ (fun _ => ?_) | refine fin_ite ?_ ?_ | exact fin_ask _ | exact fin_const _)
  | j4 a0 v4_22_0 w2_1003 => show Fin1 (fun g => hindcastlaw05_TreeOnce_j4_b g a0 v4_22_0 w2_1003); unfold hindcastlaw05_TreeOnce_j4_b; repeat (first | refine fin_bind ?_ (fun _ => ?_) | refine fin_ite ?_ ?_ | exact fin_ask _ | exact fin_const _)
  | l5 a0 v5_7_0 w5_1003 => show Fin1 (fun g => hindcastlaw05_TreeOnce_l5_b g a0 v5_7_0 w5_1003); unfold hindcastlaw05_TreeOnce_l5_b; repeat (first | refine fin_bind ?_ (fun _ => ?_) | refine fin_ite ?_ ?_ | exact fin_ask _ | exact fin_const _)
  | j6 a0 => show Fin1 (fun g => hindcastlaw05_TreeOnce_j6_b g a0); unfold hindcastlaw05_TreeOnce_j6_b; repeat (first | refine fin_bind ?_ (fun _ => ?_) | refine fin_ite ?_ ?_ | exact fin_ask _ | exact fin_const _)
noncomputable def hindcastlaw05_TreeOnce_j0  : Option Bool := fixD hindcastlaw05_TreeOnce_B (.j0 )
noncomputable def hindcastlaw05_TreeOnce_l1 (a0 : (List GApiNode)) (v1_22_0 : Int) (w1_1003 : (List Int)) : Option Bool := fixD hindcastlaw05_TreeOnce_B (.l1 a0 v1_22_0 w1_1003)
noncomputable def hindcastlaw05_TreeOnce_l2 (a0 : (List GApiNode)) (v2_4_0 : Int) (v2_22_0 : Int) (r7_2 : (List Int)) (v2_30_0 : Int) (w2_1003 : (List Int)) : Option Bool := fixD hindcastlaw05_TreeOnce_B (.l2 a0 v2_4_0 v2_22_0 r7_2 v2_30_0 w2_1003)
noncomputable def hindcastlaw05_TreeOnce_j3 (a0 : (List GApiNode)) (w3_1003 : (List Int)) : Option Bool := fixD hindcastlaw05_TreeOnce_B (.j3 a0 w3_1003)
noncomputable def hindcastlaw05_TreeOnce_j4 (a0 : (List GApiNode)) (v4_22_0 : Int) (w2_1003 : (List Int)) : Option Bool := fixD hindcastlaw05_TreeOnce_B (.j4 a0 v4_22_0 w2_1003)
noncomputable def hindcastlaw05_TreeOnce_l5 (a0 : (List GApiNode)) (v5_7_0 : Int) (w5_1003 : (List Int)) : Option Bool := fixD hindcastlaw05_TreeOnce_B (.l5 a0 v5_7_0 w5_1003)
noncomputable def hindcastlaw05_TreeOnce_j6 (a0 : (List GApiNode)) : Option Bool := fixD hindcastlaw05_TreeOnce_B (.j6 a0)
theorem hindcastlaw05_TreeOnce_j0_eq  : hindcastlaw05_TreeOnce_j0  =
  ((hindcastlaw05_awake).bind fun (r2_0 : Bool) => (some r2_0)) := fix_eq hindcastlaw05_TreeOnce_B_fin _
theorem hindcastlaw05_TreeOnce_l1_eq (a0 : (List GApiNode)) (v1_22_0 : Int) (w1_1003 : (List Int)) : hindcastlaw05_TreeOnce_l1 a0 v1_22_0 w1_1003 =
  (if v1_22_0 < (a0.length : Int) then ((tree_Kids a0 v1_22_0).bind fun (r7_2 : (List Int)) => hindcastlaw05_TreeOnce_l2 a0 v1_22_0 v1_22_0 r7_2 0 w1_1003) else hindcastlaw05_TreeOnce_j3 a0 w1_1003) := fix_eq hindcastlaw05_TreeOnce_B_fin _
theorem hindcastlaw05_TreeOnce_l2_eq (a0 : (List GApiNode)) (v2_4_0 : Int) (v2_22_0 : Int) (r7_2 : (List Int)) (v2_30_0 : Int) (w2_1003 : (List Int)) : hindcastlaw05_TreeOnce_l2 a0 v2_4_0 v2_22_0 r7_2 v2_30_0 w2_1003 =
  (if v2_30_0 < (r7_2.length : Int) then ((getI r7_2 v2_30_0).bind fun (x11_2 : Int) => (if x11_2 < 1 then (some false) else (if x11_2 ≥ (a0.length : Int) then (some false) else ((getI w2_1003 x11_2).bind fun (x11_20 : Int) => (if x11_20 = 0 then ((tree_Up a0 x11_2).bind fun (r11_30 : Int) => (if r11_30 = v2_4_0 then hindcastlaw05_TreeOnce_l2 a0 v2_4_0 v2_22_0 r7_2 (w64 (v2_30_0 + 1)) (w2_1003.set (Int.toNat x11_2) (w64 (v2_4_0 + 1))) else (some false))) else (some false)))))) else hindcastlaw05_TreeOnce_j4 a0 v2_22_0 w2_1003) := fix_eq hindcastlaw05_TreeOnce_B_fin _
theorem hindcastlaw05_TreeOnce_j3_eq (a0 : (List GApiNode)) (w3_1003 : (List Int)) : hindcastlaw05_TreeOnce_j3 a0 w3_1003 =
  hindcastlaw05_TreeOnce_l5 a0 1 w3_1003 := fix_eq hindcastlaw05_TreeOnce_B_fin _
theorem hindcastlaw05_TreeOnce_j4_eq (a0 : (List GApiNode)) (v4_22_0 : Int) (w2_1003 : (List Int)) : hindcastlaw05_TreeOnce_j4 a0 v4_22_0 w2_1003 =
  hindcastlaw05_TreeOnce_l1 a0 (w64 (v4_22_0 + 1)) w2_1003 := fix_eq hindcastlaw05_TreeOnce_B_fin _
theorem hindcastlaw05_TreeOnce_l5_eq (a0 : (List GApiNode)) (v5_7_0 : Int) (w5_1003 : (List Int)) : hindcastlaw05_TreeOnce_l5 a0 v5_7_0 w5_1003 =
  (if v5_7_0 < (a0.length : Int) then ((getI w5_1003 v5_7_0).bind fun (x18_2 : Int) => (if x18_2 = 0 then (some false) else hindcastlaw05_TreeOnce_l5 a0 (w64 (v5_7_0 + 1)) w5_1003)) else hindcastlaw05_TreeOnce_j6 a0) := fix_eq hindcastlaw05_TreeOnce_B_fin _
theorem hindcastlaw05_TreeOnce_j6_eq (a0 : (List GApiNode)) : hindcastlaw05_TreeOnce_j6 a0 =
  ((tree_Up a0 0).bind fun (r21_1 : Int) => (if r21_1 = (-1) then ((hindcastlaw05_awake).bind fun (r21_4 : Bool) => (some r21_4)) else (some false))) := fix_eq hindcastlaw05_TreeOnce_B_fin _
set_option maxRecDepth 100000 in
theorem hindcastlaw05_TreeOnce_j0_ok (n : Nat)   (r_ : Bool) (Q' : Exit → St → Prop) (kr : ∀ (ns : List (Nat × Nat × Nat)) (s : LS) (x : Bool), retX Try.prog ns [.tmp 2] s = some (aB x) → x = r_ → Q' .ret s.st)  (h : recN hindcastlaw05_TreeOnce_B n (.j0 ) = some r_) : W Try.prog (subC (bodyC Try.prog 6) [1, 0, 1, 0]) (LS.mk 94 [] []).st Q' := by
  cases n with
  | zero => cases h
  | succ m =>
  have hlt : m < m + 1 := Nat.lt_succ_self m
  replace h : hindcastlaw05_TreeOnce_j0_b (recN hindcastlaw05_TreeOnce_B m)  = some r_ := h
  unfold hindcastlaw05_TreeOnce_j0_b at h
  refine W_seq ?_
  obtain ⟨r2_0, hr2_0, h⟩ := bind_ok h
  have hr2_0 := hindcastlaw05_awake_ok hr2_0
  refine W_y (s' := LS.mk 94 [(2, aB r2_0)] []) mixed [qn (.call [] (aB r2_0)), qn0] ⟨[2], [], [], [], [], [], []⟩ (aC hr2_0 aN) (by kernel_rfl) ?_
  refine W_ret ?_
  exact kr [] _ _ (by kernel_rfl) (Option.some.inj h)
set_option maxRecDepth 100000 in
theorem hindcastlaw05_TreeOnce_l2_ok (n : Nat)  (a0 : (List GApiNode)) (v2_4_0 : Int) (v2_22_0 : Int) (r7_2 : (List Int)) (v2_30_0 : Int) (w2_1003 : (List Int)) (r_ : Bool) (Q' : Exit → St → Prop) (kr : ∀ (ns : List (Nat × Nat × Nat)) (s : LS) (x : Bool), retX Try.prog ns [.tmp 2] s = some (aB x) → x = r_ → Q' .ret s.st) (k_x_2 : ∀ (q : Nat), q < n → ∀ (v4_22_0 : Int) (w2_1003 : (List Int)) (s' : LS), recN hindcastlaw05_TreeOnce_B q (.j4 a0 v4_22_0 w2_1003) = some r_ → Fits s'.st (LS.mk 94 [(0, .t (.sl 6 (a0.map c_GApiNode))), (3, .ref 1003), (21, aI .i64 (a0.length : Int)), (22, aI .i64 v4_22_0)] [(1003, some (.row 3 1 (w2_1003.map c_i64)))]).st → Q' (.exit 2) s'.st) (h : recN hindcastlaw05_TreeOnce_B n (.l2 a0 v2_4_0 v2_22_0 r7_2 v2_30_0 w2_1003) = some r_) : W Try.prog (subC (bodyC Try.prog 6) [1, 1, 1, 0, 1, 0, 0, 1, 1, 0, 0, 1, 1, 1, 0]) (LS.mk 94 [(0, .t (.sl 6 (a0.map c_GApiNode))), (3, .ref 1003), (4, aI .i64 v2_4_0), (5, .ref 1005), (21, aI .i64 (a0.length : Int)), (22, aI .i64 v2_22_0), (29, aI .i64 (r7_2.length : Int)), (30, aI .i64 v2_30_0)] [(1003, some (.row 3 1 (w2_1003.map c_i64))), (1005, some (.row 3 1 (r7_2.map c_i64)))]).st Q' := by
  refine W_fix (σ := Int × Int × Int × (List Int)) (fun m x_ => m ≤ n ∧ recN hindcastlaw05_TreeOnce_B m (.l2 a0 x_.1 x_.2.1 r7_2 x_.2.2.1 x_.2.2.2) = some r_) (fun x_ => LS.mk 94 [(0, .t (.sl 6 (a0.map c_GApiNode))), (3, .ref 1003), (4, aI .i64 x_.1), (5, .ref 1005), (21, aI .i64 (a0.length : Int)), (22, aI .i64 x_.2.1), (29, aI .i64 (r7_2.length : Int)), (30, aI .i64 x_.2.2.1)] [(1003, some (.row 3 1 (x_.2.2.2.map c_i64))), (1005, some (.row 3 1 (r7_2.map c_i64)))]) (fun x hx => by cases hx.2) (fun _ _ => rfl) ?_ n (v2_4_0, v2_22_0, v2_30_0, w2_1003) ⟨Nat.le_refl _, h⟩
  clear h
  rintro m ⟨v2_4_0, v2_22_0, v2_30_0, w2_1003⟩ ⟨hlt, h⟩
  replace h : hindcastlaw05_TreeOnce_l2_b (recN hindcastlaw05_TreeOnce_B m) a0 v2_4_0 v2_22_0 r7_2 v2_30_0 w2_1003 = some r_ := h
  unfold hindcastlaw05_TreeOnce_l2_b at h
  refine W_seq ?_
  refine W_y (s' := LS.mk 94 [(0, .t (.sl 6 (a0.map c_GApiNode))), (3, .ref 1003), (4, aI .i64 v2_4_0), (5, .ref 1005), (21, aI .i64 (a0.length : Int)), (22, aI .i64 v2_22_0), (29, aI .i64 (r7_2.length : Int)), (30, aI .i64 v2_30_0), (31, aB (decide (v2_30_0 < (r7_2.length : Int))))] [(1003, some (.row 3 1 (w2_1003.map c_i64))), (1005, some (.row 3 1 (r7_2.map c_i64)))]) mixed [qn0] ⟨[0, 3, 4, 5, 21, 22, 29, 30, 31], [], [], [], [(1003, 1003), (1005, 1005)], [], []⟩ aN (by kernel_rfl) ?_
  refine W_seq ?_
  refine W_cond (decide (v2_30_0 < (r7_2.length : Int))) (by kernel_rfl) (fun hb3001 => ?_) (fun hb3001 => ?_)
  · have hx3002 := hb3001
    have h := if_t h hx3002
    refine W_skip ?_
    refine W_seq ?_
    refine W_block ?_
    refine W_seq ?_
    refine W_y (s' := LS.mk 94 [(0, .t (.sl 6 (a0.map c_GApiNode))), (3, .ref 1003), (4, aI .i64 v2_4_0), (5, .ref 1005), (6, aI .i64 v2_30_0), (21, aI .i64 (a0.length : Int)), (22, aI .i64 v2_22_0), (29, aI .i64 (r7_2.length : Int)), (30, aI .i64 v2_30_0)] [(1003, some (.row 3 1 (w2_1003.map c_i64))), (1005, some (.row 3 1 (r7_2.map c_i64)))]) mixed [qn0, qn0] ⟨[0, 3, 4, 5, 6, 21, 22, 29, 30], [], [], [], [(1003, 1003), (1005, 1005)], [], []⟩ aN (by kernel_rfl) ?_
    refine W_seq ?_
    refine W_seq ?_
    obtain ⟨x11_2, hx11_2, h⟩ := bind_ok h
    refine (Bool.eq_false_or_eq_true (decide (x11_2 < 1))).elim (fun hb3003 => ?_) (fun hb3003 => ?_)
    · have hx3004 := hb3003
      have h := if_t h hx3004
      refine W_y (s' := LS.mk 94 [(0, .t (.sl 6 (a0.map c_GApiNode))), (3, .ref 1003), (4, aI .i64 v2_4_0), (5, .ref 1005), (6, aI .i64 v2_30_0), (21, aI .i64 (a0.length : Int)), (22, aI .i64 v2_22_0), (29, aI .i64 (r7_2.length : Int)), (30, aI .i64 v2_30_0), (66, aB true)] [(1003, some (.row 3 1 (w2_1003.map c_i64))), (1005, some (.row 3 1 (r7_2.map c_i64)))]) mixed [qn0, qn0, qn (.ix (Int.toNat v2_30_0) (c_i64 x11_2)), qn (.ix (Int.toNat v2_30_0) (c_i64 x11_2)), qn0, qn0, qt0, qt0, qt0, qt0, qt0, qt0, qt0, qn (.dec true), qn0, qn0, qn0, qn0, qn0, qn0, qn0, qn0, qn0, qn0, qn0, qn0, qn0, qn0, qn0, qn0, qn0, qn0, qn0, qn0] ⟨[0, 3, 4, 5, 6, 21, 22, 29, 30, 66], [], [], [], [(1003, 1003), (1005, 1005)], [], []⟩ (aC (ix_obx c_i64 hx11_2) (aC (el_obx c_i64 hx11_2) (aC hx3004 (aC hx3004 (aC hx3004 (aC hx3004 (aC hx3004 (aC hx3004 (aC hx3004 (aC hx3004 aN)))))))))) (by kernel_rfl) ?_
      refine W_cond true (by kernel_rfl) (fun _ => ?_) (fun hb => nomatch ((rfl : true = true).symm.trans hb))
      refine W_seq ?_
      refine W_y (s' := LS.mk 94 [(2, aB false)] []) mixed [qn0] ⟨[2], [], [], [], [], [], []⟩ aN (by kernel_rfl) ?_
      refine W_ret ?_
      exact kr [] _ _ (by kernel_rfl) (Option.some.inj h)
    · have hx3004 := hb3003
      have h := if_f h hx3004
      refine (Bool.eq_false_or_eq_true (decide (x11_2 ≥ (a0.length : Int)))).elim (fun hb3005 => ?_) (fun hb3005 => ?_)
      · have hx3006 := hb3005
        have h := if_t h hx3006
        refine W_y (s' := LS.mk 94 [(0, .t (.sl 6 (a0.map c_GApiNode))), (3, .ref 1003), (4, aI .i64 v2_4_0), (5, .ref 1005), (6, aI .i64 v2_30_0), (21, aI .i64 (a0.length : Int)), (22, aI .i64 v2_22_0), (29, aI .i64 (r7_2.length : Int)), (30, aI .i64 v2_30_0), (66, aB true)] [(1003, some (.row 3 1 (w2_1003.map c_i64))), (1005, some (.row 3 1 (r7_2.map c_i64)))]) mixed [qn0, qn0, qn (.ix (Int.toNat v2_30_0) (c_i64 x11_2)), qn (.ix (Int.toNat v2_30_0) (c_i64 x11_2)), qn0, qn0, qf0, qf0, qf (.ix (Int.toNat v2_30_0) (c_i64 x11_2)), qf (.ix (Int.toNat v2_30_0) (c_i64 x11_2)), qf0, qf (.len a0.length), qf0, qn (.dec false), qn0, qt0, qt0, qt0, qt0, qt0, qt0, qt0, qt0, qn (.dec true), qn0, qn0, qn0, qn0, qn0, qn0, qn0, qn0, qn0, qn0] ⟨[0, 3, 4, 5, 6, 21, 22, 29, 30, 66], [], [], [], [(1003, 1003), (1005, 1005)], [], []⟩ (aC (ix_obx c_i64 hx11_2) (aC (el_obx c_i64 hx11_2) (aC hx3004 (aC hx3004 (aC hx3004 (aC (ix_obx c_i64 hx11_2) (aC hx3004 (aC (el_obx c_i64 hx11_2) (aC hx3004 (aC hx3004 (aC (len_obx c_GApiNode a0) (aC hx3004 (aC hx3004 (aC hx3006 (aC hx3006 (aC hx3006 (aC hx3006 (aC hx3006 (aC hx3006 (aC hx3006 (aC hx3006 (aC hx3006 aN)))))))))))))))))))))) (by kernel_rfl) ?_
        refine W_cond true (by kernel_rfl) (fun _ => ?_) (fun hb => nomatch ((rfl : true = true).symm.trans hb))
        refine W_seq ?_
        refine W_y (s' := LS.mk 94 [(2, aB false)] []) mixed [qn0] ⟨[2], [], [], [], [], [], []⟩ aN (by kernel_rfl) ?_
        refine W_ret ?_
        exact kr [] _ _ (by kernel_rfl) (Option.some.inj h)
      · have hx3006 := hb3005
        have h := if_f h hx3006
        obtain ⟨x11_20, hx11_20, h⟩ := bind_ok h
        refine (Bool.eq_false_or_eq_true (!(decide (x11_20 = 0)))).elim (fun hb3007 => ?_) (fun hb3007 => ?_)
        · have hx3008 : (decide (x11_20 = 0)) = false := (bnot_t hb3007)
          have h := if_f h hx3008
          refine W_y (s' := LS.mk 94 [(0, .t (.sl 6 (a0.map c_GApiNode))), (3, .ref 1003), (4, aI .i64 v2_4_0), (5, .ref 1005), (6, aI .i64 v2_30_0), (21, aI .i64 (a0.length : Int)), (22, aI .i64 v2_22_0), (29, aI .i64 (r7_2.length : Int)), (30, aI .i64 v2_30_0), (66, aB true)] [(1003, some (.row 3 1 (w2_1003.map c_i64))), (1005, some (.row 3 1 (r7_2.map c_i64)))]) mixed [qn0, qn0, qn (.ix (Int.toNat v2_30_0) (c_i64 x11_2)), qn (.ix (Int.toNat v2_30_0) (c_i64 x11_2)), qn0, qn0, qf0, qf0, qf (.ix (Int.toNat v2_30_0) (c_i64 x11_2)), qf (.ix (Int.toNat v2_30_0) (c_i64 x11_2)), qf0, qf (.len a0.length), qf0, qn (.dec false), qn0, qf0, qf0, qf0, qf (.ix (Int.toNat v2_30_0) (c_i64 x11_2)), qf (.ix (Int.toNat v2_30_0) (c_i64 x11_2)), qf (.ix (Int.toNat x11_2) (c_i64 x11_20)), qf (.ix (Int.toNat x11_2) (c_i64 x11_20)), qf0, qn (.dec false), qn0, qt0, qt0, qt0, qt0, qt0, qt0, qt0, qt0, qn (.dec true)] ⟨[0, 3, 4, 5, 6, 21, 22, 29, 30, 66], [], [], [], [(1003, 1003), (1005, 1005)], [], []⟩ (aC (ix_obx c_i64 hx11_2) (aC (el_obx c_i64 hx11_2) (aC hx3004 (aC hx3004 (aC hx3004 (aC (ix_obx c_i64 hx11_2) (aC hx3004 (aC (el_obx c_i64 hx11_2) (aC hx3004 (aC hx3004 (aC (len_obx c_GApiNode a0) (aC hx3004 (aC hx3004 (aC hx3006 (aC hx3006 (aC hx3006 (aC hx3006 (aC (ix_obx c_i64 hx11_2) (aC hx3006 (aC (el_obx c_i64 hx11_2) (aC hx3006 (aC (ix_obx c_i64 hx11_20) (aC hx3006 (aC (el_obx c_i64 hx11_20) (aC hx3006 (aC hx3006 (aC (not_f hx3008) (aC (not_f hx3008) (aC (not_f hx3008) (aC (not_f hx3008) (aC (not_f hx3008) (aC (not_f hx3008) (aC (not_f hx3008) (aC (not_f hx3008) (aC (not_f hx3008) aN))))))))))))))))))))))))))))))))))) (by kernel_rfl) ?_
          refine W_cond true (by kernel_rfl) (fun _ => ?_) (fun hb => nomatch ((rfl : true = true).symm.trans hb))
          refine W_seq ?_
          refine W_y (s' := LS.mk 94 [(2, aB false)] []) mixed [qn0] ⟨[2], [], [], [], [], [], []⟩ aN (by kernel_rfl) ?_
          refine W_ret ?_
          exact kr [] _ _ (by kernel_rfl) (Option.some.inj h)
        · have hx3008 : (decide (x11_20 = 0)) = true := (bnot_f hb3007)
          have h := if_t h hx3008
          obtain ⟨r11_30, hr11_30, h⟩ := bind_ok h
          have hr11_30 := tree_Up_ok hr11_30
          refine W_y (s' := LS.mk 94 [(0, .t (.sl 6 (a0.map c_GApiNode))), (3, .ref 1003), (4, aI .i64 v2_4_0), (5, .ref 1005), (6, aI .i64 v2_30_0), (21, aI .i64 (a0.length : Int)), (22, aI .i64 v2_22_0), (29, aI .i64 (r7_2.length : Int)), (30, aI .i64 v2_30_0), (66, aB (!(decide (r11_30 = v2_4_0))))] [(1003, some (.row 3 1 (w2_1003.map c_i64))), (1005, some (.row 3 1 (r7_2.map c_i64)))]) mixed [qn0, qn0, qn (.ix (Int.toNat v2_30_0) (c_i64 x11_2)), qn (.ix (Int.toNat v2_30_0) (c_i64 x11_2)), qn0, qn0, qf0, qf0, qf (.ix (Int.toNat v2_30_0) (c_i64 x11_2)), qf (.ix (Int.toNat v2_30_0) (c_i64 x11_2)), qf0, qf (.len a0.length), qf0, qn (.dec false), qn0, qf0, qf0, qf0, qf (.ix (Int.toNat v2_30_0) (c_i64 x11_2)), qf (.ix (Int.toNat v2_30_0) (c_i64 x11_2)), qf (.ix (Int.toNat x11_2) (c_i64 x11_20)), qf (.ix (Int.toNat x11_2) (c_i64 x11_20)), qf0, qn (.dec false), qn0, qf0, qf0, qf0, qf (.ix (Int.toNat v2_30_0) (c_i64 x11_2)), qf (.ix (Int.toNat v2_30_0) (c_i64 x11_2)), qf (.call [] (aI .i64 r11_30)), qf0, qf0, qn (.dec false)] ⟨[0, 3, 4, 5, 6, 21, 22, 29, 30, 66], [], [], [], [(1003, 1003), (1005, 1005)], [], []⟩ (aC (ix_obx c_i64 hx11_2) (aC (el_obx c_i64 hx11_2) (aC hx3004 (aC hx3004 (aC hx3004 (aC (ix_obx c_i64 hx11_2) (aC hx3004 (aC (el_obx c_i64 hx11_2) (aC hx3004 (aC hx3004 (aC (len_obx c_GApiNode a0) (aC hx3004 (aC hx3004 (aC hx3006 (aC hx3006 (aC hx3006 (aC hx3006 (aC (ix_obx c_i64 hx11_2) (aC hx3006 (aC (el_obx c_i64 hx11_2) (aC hx3006 (aC (ix_obx c_i64 hx11_20) (aC hx3006 (aC (el_obx c_i64 hx11_20) (aC hx3006 (aC hx3006 (aC (not_t hx3008) (aC (not_t hx3008) (aC (not_t hx3008) (aC (not_t hx3008) (aC (ix_obx c_i64 hx11_2) (aC (not_t hx3008) (aC (el_obx c_i64 hx11_2) (aC (not_t hx3008) (aC hr11_30 (aC (not_t hx3008) (aC (not_t hx3008) (aC (not_t hx3008) aN)))))))))))))))))))))))))))))))))))))) (by kernel_rfl) ?_
          refine W_cond (!(decide (r11_30 = v2_4_0))) (by kernel_rfl) (fun hb3009 => ?_) (fun hb3009 => ?_)
          · have hx3010 : (decide (r11_30 = v2_4_0)) = false := (bnot_t hb3009)
            have h := if_f h hx3010
            refine W_seq ?_
            refine W_y (s' := LS.mk 94 [(2, aB false)] []) mixed [qn0] ⟨[2], [], [], [], [], [], []⟩ aN (by kernel_rfl) ?_
            refine W_ret ?_
            exact kr [] _ _ (by kernel_rfl) (Option.some.inj h)
          · have hx3010 : (decide (r11_30 = v2_4_0)) = true := (bnot_f hb3009)
            have h := if_t h hx3010
            refine W_skip ?_
            have hx3011 := getI_set hx11_20 (w64 (v2_4_0 + 1))
            refine W_y (s' := LS.mk 94 [(0, .t (.sl 6 (a0.map c_GApiNode))), (3, .ref 1003), (4, aI .i64 v2_4_0), (5, .ref 1005), (21, aI .i64 (a0.length : Int)), (22, aI .i64 v2_22_0), (29, aI .i64 (r7_2.length : Int)), (30, aI .i64 v2_30_0)] [(1003, some (.row 3 1 ((w2_1003.set (Int.toNat x11_2) (w64 (v2_4_0 + 1))).map c_i64))), (1005, some (.row 3 1 (r7_2.map c_i64)))]) mixed [qn0, qn0, qn0, qn (.ix (Int.toNat v2_30_0) (c_i64 x11_2)), qn (.ix (Int.toNat v2_30_0) (c_i64 x11_2)), qn0, qn0, qn (.ix (Int.toNat x11_2) (c_i64 x11_20)), qn (.set (c_i64 x11_20) ((w2_1003.set (Int.toNat x11_2) (w64 (v2_4_0 + 1))).map c_i64))] ⟨[0, 3, 4, 5, 21, 22, 29, 30], [], [], [], [(1003, 1003), (1005, 1005)], [], []⟩ (aC (ix_obx c_i64 hx11_2) (aC (el_obx c_i64 hx11_2) (aC (ix_obx c_i64 hx11_20) (aC (el_obx c_i64 hx11_20) (aC (set_obx c_i64 w2_1003 (Int.toNat x11_2) (w64 (v2_4_0 + 1))) aN))))) (by kernel_rfl) ?_
            refine W_y (s' := LS.mk 94 [(0, .t (.sl 6 (a0.map c_GApiNode))), (3, .ref 1003), (4, aI .i64 v2_4_0), (5, .ref 1005), (21, aI .i64 (a0.length : Int)), (22, aI .i64 v2_22_0), (29, aI .i64 (r7_2.length : Int)), (30, aI .i64 (w64 (v2_30_0 + 1)))] [(1003, some (.row 3 1 ((w2_1003.set (Int.toNat x11_2) (w64 (v2_4_0 + 1))).map c_i64))), (1005, some (.row 3 1 (r7_2.map c_i64)))]) mixed [qn0, qn0] ⟨[0, 3, 4, 5, 21, 22, 29, 30], [], [], [], [(1003, 1003), (1005, 1005)], [], []⟩ aN (by kernel_rfl) ?_
            exact ⟨m, (v2_4_0, v2_22_0, (w64 (v2_30_0 + 1)), (w2_1003.set (Int.toNat x11_2) (w64 (v2_4_0 + 1)))), Nat.le_refl _, ⟨Nat.le_of_lt hlt, h⟩, convX_fits (v := ⟨[0, 3, 4, 5, 21, 22, 29, 30], [], [], [], [(1003, 1003), (1005, 1005)], [], []⟩) (s' := LS.mk 94 [(0, .t (.sl 6 (a0.map c_GApiNode))), (3, .ref 1003), (4, aI .i64 v2_4_0), (5, .ref 1005), (21, aI .i64 (a0.length : Int)), (22, aI .i64 v2_22_0), (29, aI .i64 (r7_2.length : Int)), (30, aI .i64 (w64 (v2_30_0 + 1)))] [(1003, some (.row 3 1 ((w2_1003.set (Int.toNat x11_2) (w64 (v2_4_0 + 1))).map c_i64))), (1005, some (.row 3 1 (r7_2.map c_i64)))]) (by kernel_rfl)⟩
  · have hx3002 := hb3001
    have h := if_f h hx3002
    refine W_exit ?_
    exact k_x_2 m hlt v2_22_0 w2_1003 _ h (convX_fits (v := ⟨[0, 3, 21, 22], [], [], [], [(1003, 1003)], [], []⟩) (s' := LS.mk 94 [(0, .t (.sl 6 (a0.map c_GApiNode))), (3, .ref 1003), (21, aI .i64 (a0.length : Int)), (22, aI .i64 v2_22_0)] [(1003, some (.row 3 1 (w2_1003.map c_i64)))]) (by kernel_rfl))
set_option maxRecDepth 100000 in
theorem hindcastlaw05_TreeOnce_j4_ok (n : Nat)  (a0 : (List GApiNode)) (v4_22_0 : Int) (w2_1003 : (List Int)) (r_ : Bool) (Q' : Exit → St → Prop) (kr : ∀ (ns : List (Nat × Nat × Nat)) (s : LS) (x : Bool), retX Try.prog ns [.tmp 2] s = some (aB x) → x = r_ → Q' .ret s.st) (k_n : ∀ (q : Nat), q < n → ∀ (v1_22_0 : Int) (w1_1003 : (List Int)) (s' : LS), recN hindcastlaw05_TreeOnce_B q (.l1 a0 v1_22_0 w1_1003) = some r_ → Fits s'.st (LS.mk 94 [(0, .t (.sl 6 (a0.map c_GApiNode))), (3, .ref 1003), (21, aI .i64 (a0.length : Int)), (22, aI .i64 v1_22_0)] [(1003, some (.row 3 1 (w1_1003.map c_i64)))]).st → Q' .normal s'.st) (h : recN hindcastlaw05_TreeOnce_B n (.j4 a0 v4_22_0 w2_1003) = some r_) : W Try.prog (subC (bodyC Try.prog 6) [1, 1, 1, 0, 1, 0, 0, 1, 1, 1]) (LS.mk 94 [(0, .t (.sl 6 (a0.map c_GApiNode))), (3, .ref 1003), (21, aI .i64 (a0.length : Int)), (22, aI .i64 v4_22_0)] [(1003, some (.row 3 1 (w2_1003.map c_i64)))]).st Q' := by
  cases n with
  | zero => cases h
  | succ m =>
  have hlt : m < m + 1 := Nat.lt_succ_self m
  replace h : hindcastlaw05_TreeOnce_j4_b (recN hindcastlaw05_TreeOnce_B m) a0 v4_22_0 w2_1003 = some r_ := h
  unfold hindcastlaw05_TreeOnce_j4_b at h
  refine W_y (s' := LS.mk 94 [(0, .t (.sl 6 (a0.map c_GApiNode))), (3, .ref 1003), (21, aI .i64 (a0.length : Int)), (22, aI .i64 (w64 (v4_22_0 + 1)))] [(1003, some (.row 3 1 (w2_1003.map c_i64)))]) mixed [qn0, qn0] ⟨[0, 3, 21, 22], [], [], [], [(1003, 1003)], [], []⟩ aN (by kernel_rfl) ?_
  exact k_n m hlt (w64 (v4_22_0 + 1)) w2_1003 _ h (convX_fits (v := ⟨[0, 3, 21, 22], [], [], [], [(1003, 1003)], [], []⟩) (s' := LS.mk 94 [(0, .t (.sl 6 (a0.map c_GApiNode))), (3, .ref 1003), (21, aI .i64 (a0.length : Int)), (22, aI .i64 (w64 (v4_22_0 + 1)))] [(1003, some (.row 3 1 (w2_1003.map c_i64)))]) (by kernel_rfl))
set_option maxRecDepth 100000 in
theorem hindcastlaw05_TreeOnce_l5_ok (n : Nat)  (a0 : (List GApiNode)) (v5_7_0 : Int) (w5_1003 : (List Int)) (r_ : Bool) (Q' : Exit → St → Prop) (kr : ∀ (ns : List (Nat × Nat × Nat)) (s : LS) (x : Bool), retX Try.prog ns [.tmp 2] s = some (aB x) → x = r_ → Q' .ret s.st) (k_x_4 : ∀ (q : Nat), q < n → ∀  (s' : LS), recN hindcastlaw05_TreeOnce_B q (.j6 a0) = some r_ → Fits s'.st (LS.mk 94 [(0, .t (.sl 6 (a0.map c_GApiNode)))] []).st → Q' (.exit 4) s'.st) (h : recN hindcastlaw05_TreeOnce_B n (.l5 a0 v5_7_0 w5_1003) = some r_) : W Try.prog (subC (bodyC Try.prog 6) [1, 1, 1, 1, 0, 1, 0]) (LS.mk 94 [(0, .t (.sl 6 (a0.map c_GApiNode))), (3, .ref 1003), (7, aI .i64 v5_7_0)] [(1003, some (.row 3 1 (w5_1003.map c_i64)))]).st Q' := by
  refine W_fix (σ := Int × (List Int)) (fun m x_ => m ≤ n ∧ recN hindcastlaw05_TreeOnce_B m (.l5 a0 x_.1 x_.2) = some r_) (fun x_ => LS.mk 94 [(0, .t (.sl 6 (a0.map c_GApiNode))), (3, .ref 1003), (7, aI .i64 x_.1)] [(1003, some (.row 3 1 (x_.2.map c_i64)))]) (fun x hx => by cases hx.2) (fun _ _ => rfl) ?_ n (v5_7_0, w5_1003) ⟨Nat.le_refl _, h⟩
  clear h
  rintro m ⟨v5_7_0, w5_1003⟩ ⟨hlt, h⟩
  replace h : hindcastlaw05_TreeOnce_l5_b (recN hindcastlaw05_TreeOnce_B m) a0 v5_7_0 w5_1003 = some r_ := h
  unfold hindcastlaw05_TreeOnce_l5_b at h
  refine W_seq ?_
  refine W_seq ?_
  refine W_y (s' := LS.mk 94 [(0, .t (.sl 6 (a0.map c_GApiNode))), (3, .ref 1003), (7, aI .i64 v5_7_0), (80, aB (decide (v5_7_0 < (a0.length : Int))))] [(1003, some (.row 3 1 (w5_1003.map c_i64)))]) mixed [qn0, qn0, qn (.len a0.length), qn0] ⟨[0, 3, 7, 80], [], [], [], [(1003, 1003)], [], []⟩ (aC (len_obx c_GApiNode a0) aN) (by kernel_rfl) ?_
  refine W_cond (decide (v5_7_0 < (a0.length : Int))) (by kernel_rfl) (fun hb6001 => ?_) (fun hb6001 => ?_)
  · have hx6002 := hb6001
    have h := if_t h hx6002
    refine W_skip ?_
    refine W_seq ?_
    refine W_block ?_
    refine W_seq ?_
    obtain ⟨x18_2, hx18_2, h⟩ := bind_ok h
    refine W_y (s' := LS.mk 94 [(0, .t (.sl 6 (a0.map c_GApiNode))), (3, .ref 1003), (7, aI .i64 v5_7_0), (87, aB (decide (x18_2 = 0)))] [(1003, some (.row 3 1 (w5_1003.map c_i64)))]) mixed [qn0, qn0, qn (.ix (Int.toNat v5_7_0) (c_i64 x18_2)), qn (.ix (Int.toNat v5_7_0) (c_i64 x18_2)), qn0] ⟨[0, 3, 7, 87], [], [], [], [(1003, 1003)], [], []⟩ (aC (ix_obx c_i64 hx18_2) (aC (el_obx c_i64 hx18_2) aN)) (by kernel_rfl) ?_
    refine W_cond (decide (x18_2 = 0)) (by kernel_rfl) (fun hb6003 => ?_) (fun hb6003 => ?_)
    · have hx6004 := hb6003
      have h := if_t h hx6004
      refine W_seq ?_
      refine W_y (s' := LS.mk 94 [(2, aB false)] []) mixed [qn0] ⟨[2], [], [], [], [], [], []⟩ aN (by kernel_rfl) ?_
      refine W_ret ?_
      exact kr [] _ _ (by kernel_rfl) (Option.some.inj h)
    · have hx6004 := hb6003
      have h := if_f h hx6004
      refine W_skip ?_
      refine W_y (s' := LS.mk 94 [(0, .t (.sl 6 (a0.map c_GApiNode))), (3, .ref 1003), (7, aI .i64 (w64 (v5_7_0 + 1)))] [(1003, some (.row 3 1 (w5_1003.map c_i64)))]) mixed [qn0, qn0, qn0] ⟨[0, 3, 7], [], [], [], [(1003, 1003)], [], []⟩ aN (by kernel_rfl) ?_
      exact ⟨m, ((w64 (v5_7_0 + 1)), w5_1003), Nat.le_refl _, ⟨Nat.le_of_lt hlt, h⟩, convX_fits (v := ⟨[0, 3, 7], [], [], [], [(1003, 1003)], [], []⟩) (s' := LS.mk 94 [(0, .t (.sl 6 (a0.map c_GApiNode))), (3, .ref 1003), (7, aI .i64 (w64 (v5_7_0 + 1)))] [(1003, some (.row 3 1 (w5_1003.map c_i64)))]) (by kernel_rfl)⟩
  · have hx6002 := hb6001
    have h := if_f h hx6002
    refine W_exit ?_
    exact k_x_4 m hlt  _ h (convX_fits (v := ⟨[0], [], [], [], [], [], []⟩) (s' := LS.mk 94 [(0, .t (.sl 6 (a0.map c_GApiNode)))] []) (by kernel_rfl))
set_option maxRecDepth 100000 in
theorem hindcastlaw05_TreeOnce_j6_ok (n : Nat)  (a0 : (List GApiNode)) (r_ : Bool) (Q' : Exit → St → Prop) (kr : ∀ (ns : List (Nat × Nat × Nat)) (s : LS) (x : Bool), retX Try.prog ns [.tmp 2] s = some (aB x) → x = r_ → Q' .ret s.st)  (h : recN hindcastlaw05_TreeOnce_B n (.j6 a0) = some r_) : W Try.prog (subC (bodyC Try.prog 6) [1, 1, 1, 1, 1]) (LS.mk 94 [(0, .t (.sl 6 (a0.map c_GApiNode)))] []).st Q' := by
  cases n with
  | zero => cases h
  | succ m =>
  have hlt : m < m + 1 := Nat.lt_succ_self m
  replace h : hindcastlaw05_TreeOnce_j6_b (recN hindcastlaw05_TreeOnce_B m) a0 = some r_ := h
  unfold hindcastlaw05_TreeOnce_j6_b at h
  refine W_seq ?_
  obtain ⟨r21_1, hr21_1, h⟩ := bind_ok h
  have hr21_1 := tree_Up_ok hr21_1
  refine (Bool.eq_false_or_eq_true (decide (r21_1 = (-1)))).elim (fun hb7001 => ?_) (fun hb7001 => ?_)
  · have hx7002 := hb7001
    have h := if_t h hx7002
    obtain ⟨r21_4, hr21_4, h⟩ := bind_ok h
    have hr21_4 := hindcastlaw05_awake_ok hr21_4
    refine W_y (s' := LS.mk 94 [(2, aB r21_4)] []) mixed [qn0, qn (.call [] (aI .i64 r21_1)), qn0, qn0, qt (.call [] (aB r21_4)), qn (.dec true), qn0] ⟨[2], [], [], [], [], [], []⟩ (aC hr21_1 (aC hx7002 (aC hr21_4 (aC hx7002 aN)))) (by kernel_rfl) ?_
    refine W_ret ?_
    exact kr [] _ _ (by kernel_rfl) (Option.some.inj h)
  · have hx7002 := hb7001
    have h := if_f h hx7002
    refine W_y (s' := LS.mk 94 [(2, aB false)] []) mixed [qn0, qn (.call [] (aI .i64 r21_1)), qn0, qn0, qf0, qn (.dec false), qn0] ⟨[2], [], [], [], [], [], []⟩ (aC hr21_1 (aC hx7002 (aC hx7002 aN))) (by kernel_rfl) ?_
    refine W_ret ?_
    exact kr [] _ _ (by kernel_rfl) (Option.some.inj h)
set_option maxRecDepth 100000 in
theorem hindcastlaw05_TreeOnce_l1_ok (n : Nat)  (a0 : (List GApiNode)) (v1_22_0 : Int) (w1_1003 : (List Int)) (r_ : Bool) (Q' : Exit → St → Prop) (kr : ∀ (ns : List (Nat × Nat × Nat)) (s : LS) (x : Bool), retX Try.prog ns [.tmp 2] s = some (aB x) → x = r_ → Q' .ret s.st) (k_x_0 : ∀ (q : Nat), q < n → ∀ (w3_1003 : (List Int)) (s' : LS), recN hindcastlaw05_TreeOnce_B q (.j3 a0 w3_1003) = some r_ → Fits s'.st (LS.mk 94 [(0, .t (.sl 6 (a0.map c_GApiNode))), (3, .ref 1003)] [(1003, some (.row 3 1 (w3_1003.map c_i64)))]).st → Q' (.exit 0) s'.st) (h : recN hindcastlaw05_TreeOnce_B n (.l1 a0 v1_22_0 w1_1003) = some r_) : W Try.prog (subC (bodyC Try.prog 6) [1, 1, 1, 0, 1, 0]) (LS.mk 94 [(0, .t (.sl 6 (a0.map c_GApiNode))), (3, .ref 1003), (21, aI .i64 (a0.length : Int)), (22, aI .i64 v1_22_0)] [(1003, some (.row 3 1 (w1_1003.map c_i64)))]).st Q' := by
  refine W_fix (σ := Int × (List Int)) (fun m x_ => m ≤ n ∧ recN hindcastlaw05_TreeOnce_B m (.l1 a0 x_.1 x_.2) = some r_) (fun x_ => LS.mk 94 [(0, .t (.sl 6 (a0.map c_GApiNode))), (3, .ref 1003), (21, aI .i64 (a0.length : Int)), (22, aI .i64 x_.1)] [(1003, some (.row 3 1 (x_.2.map c_i64)))]) (fun x hx => by cases hx.2) (fun _ _ => rfl) ?_ n (v1_22_0, w1_1003) ⟨Nat.le_refl _, h⟩
  clear h
  rintro m ⟨v1_22_0, w1_1003⟩ ⟨hlt, h⟩
  replace h : hindcastlaw05_TreeOnce_l1_b (recN hindcastlaw05_TreeOnce_B m) a0 v1_22_0 w1_1003 = some r_ := h
  unfold hindcastlaw05_TreeOnce_l1_b at h
  refine W_seq ?_
  refine W_y (s' := LS.mk 94 [(0, .t (.sl 6 (a0.map c_GApiNode))), (3, .ref 1003), (21, aI .i64 (a0.length : Int)), (22, aI .i64 v1_22_0), (23, aB (decide (v1_22_0 < (a0.length : Int))))] [(1003, some (.row 3 1 (w1_1003.map c_i64)))]) mixed [qn0] ⟨[0, 3, 21, 22, 23], [], [], [], [(1003, 1003)], [], []⟩ aN (by kernel_rfl) ?_
  refine W_seq ?_
  refine W_cond (decide (v1_22_0 < (a0.length : Int))) (by kernel_rfl) (fun hb2001 => ?_) (fun hb2001 => ?_)
  · have hx2002 := hb2001
    have h := if_t h hx2002
    refine W_skip ?_
    refine W_seq ?_
    refine W_block ?_
    refine W_seq ?_
    refine W_y (s' := LS.mk 94 [(0, .t (.sl 6 (a0.map c_GApiNode))), (3, .ref 1003), (4, aI .i64 v1_22_0), (21, aI .i64 (a0.length : Int)), (22, aI .i64 v1_22_0)] [(1003, some (.row 3 1 (w1_1003.map c_i64)))]) mixed [qn0, qn0] ⟨[0, 3, 4, 21, 22], [], [], [], [(1003, 1003)], [], []⟩ aN (by kernel_rfl) ?_
    refine W_seq ?_
    obtain ⟨r7_2, hr7_2, h⟩ := bind_ok h
    have hr7_2 := tree_Kids_ok hr7_2
    refine W_y (s' := LS.mk 94 [(0, .t (.sl 6 (a0.map c_GApiNode))), (3, .ref 1003), (4, aI .i64 v1_22_0), (5, .ref 1005), (21, aI .i64 (a0.length : Int)), (22, aI .i64 v1_22_0)] [(1005, some (.row 3 1 (r7_2.map c_i64))), (1003, some (.row 3 1 (w1_1003.map c_i64)))]) mixed [qn0, qn0, qn (.io ⟨[], [], [], [], [], [], [(800000, 27)]⟩ (.ref 800000) [(800000, .row 3 1 (r7_2.map c_i64))]), qn0] ⟨[0, 3, 4, 5, 21, 22], [], [], [], [(27, 1005), (1003, 1003)], [], []⟩ (aC hr7_2 aN) (by kernel_rfl) ?_
    refine W_seq ?_
    refine W_y (s' := LS.mk 94 [(0, .t (.sl 6 (a0.map c_GApiNode))), (3, .ref 1003), (4, aI .i64 v1_22_0), (5, .ref 1005), (21, aI .i64 (a0.length : Int)), (22, aI .i64 v1_22_0), (29, aI .i64 (r7_2.length : Int)), (30, aI .i64 0)] [(1003, some (.row 3 1 (w1_1003.map c_i64))), (1005, some (.row 3 1 (r7_2.map c_i64)))]) mixed [qn0, qn (.len r7_2.length), qn0] ⟨[0, 3, 4, 5, 21, 22, 29, 30], [], [], [], [(1003, 1003), (1005, 1005)], [], []⟩ (aC (len_obx c_i64 r7_2) aN) (by kernel_rfl) ?_
    refine W_block ?_
    exact W_conv (s' := LS.mk 94 [(0, .t (.sl 6 (a0.map c_GApiNode))), (3, .ref 1003), (4, aI .i64 v1_22_0), (5, .ref 1005), (21, aI .i64 (a0.length : Int)), (22, aI .i64 v1_22_0), (29, aI .i64 (r7_2.length : Int)), (30, aI .i64 0)] [(1003, some (.row 3 1 (w1_1003.map c_i64))), (1005, some (.row 3 1 (r7_2.map c_i64)))]) ⟨[0, 3, 4, 5, 21, 22, 29, 30], [], [], [], [(1003, 1003), (1005, 1005)], [], []⟩ (by kernel_rfl) (hindcastlaw05_TreeOnce_l2_ok m a0 v1_22_0 v1_22_0 r7_2 0 w1_1003 r_ _ kr (fun q1 hq1 v4_22_0 w2_1003 s' h hf => W_pre hf (hindcastlaw05_TreeOnce_j4_ok q1 a0 v4_22_0 w2_1003 r_ _ kr (fun q2 hq2 v1_22_0 w1_1003 s' h hf => ⟨q2, (v1_22_0, w1_1003), Nat.le_of_lt (Nat.lt_trans hq2 hq1), ⟨Nat.le_of_lt (Nat.lt_trans hq2 (Nat.lt_trans hq1 hlt)), h⟩, hf⟩) h)) h)
  · have hx2002 := hb2001
    have h := if_f h hx2002
    refine W_exit ?_
    exact k_x_0 m hlt w1_1003 _ h (convX_fits (v := ⟨[0, 3], [], [], [], [(1003, 1003)], [], []⟩) (s' := LS.mk 94 [(0, .t (.sl 6 (a0.map c_GApiNode))), (3, .ref 1003)] [(1003, some (.row 3 1 (w1_1003.map c_i64)))]) (by kernel_rfl))
set_option maxRecDepth 100000 in
theorem hindcastlaw05_TreeOnce_j3_ok (n : Nat)  (a0 : (List GApiNode)) (w3_1003 : (List Int)) (r_ : Bool) (Q' : Exit → St → Prop) (kr : ∀ (ns : List (Nat × Nat × Nat)) (s : LS) (x : Bool), retX Try.prog ns [.tmp 2] s = some (aB x) → x = r_ → Q' .ret s.st)  (h : recN hindcastlaw05_TreeOnce_B n (.j3 a0 w3_1003) = some r_) : W Try.prog (subC (bodyC Try.prog 6) [1, 1, 1, 1]) (LS.mk 94 [(0, .t (.sl 6 (a0.map c_GApiNode))), (3, .ref 1003)] [(1003, some (.row 3 1 (w3_1003.map c_i64)))]).st Q' := by
  cases n with
  | zero => cases h
  | succ m =>
  have hlt : m < m + 1 := Nat.lt_succ_self m
  replace h : hindcastlaw05_TreeOnce_j3_b (recN hindcastlaw05_TreeOnce_B m) a0 w3_1003 = some r_ := h
  unfold hindcastlaw05_TreeOnce_j3_b at h
  refine W_seq ?_
  refine W_seq ?_
  refine W_y (s' := LS.mk 94 [(0, .t (.sl 6 (a0.map c_GApiNode))), (3, .ref 1003), (7, aI .i64 1)] [(1003, some (.row 3 1 (w3_1003.map c_i64)))]) mixed [qn0] ⟨[0, 3, 7], [], [], [], [(1003, 1003)], [], []⟩ aN (by kernel_rfl) ?_
  refine W_block ?_
  exact W_conv (s' := LS.mk 94 [(0, .t (.sl 6 (a0.map c_GApiNode))), (3, .ref 1003), (7, aI .i64 1)] [(1003, some (.row 3 1 (w3_1003.map c_i64)))]) ⟨[0, 3, 7], [], [], [], [(1003, 1003)], [], []⟩ (by kernel_rfl) (hindcastlaw05_TreeOnce_l5_ok m a0 1 w3_1003 r_ _ kr (fun q1 hq1  s' h hf => W_pre hf (hindcastlaw05_TreeOnce_j6_ok q1 a0 r_ _ kr h)) h)
noncomputable def hindcastlaw05_TreeOnce (a0 : (List GApiNode)) : Option Bool :=
  (if (a0.length : Int) > 100 then hindcastlaw05_TreeOnce_j0 else ((hindcastref05_Right a0).bind fun (r1_5 : Bool) => (if r1_5 = true then (if MakeOb 8 (a0.length : Int) then hindcastlaw05_TreeOnce_l1 a0 0 (List.replicate (Int.toNat (a0.length : Int)) 0) else none) else hindcastlaw05_TreeOnce_j0)))
set_option maxRecDepth 100000 in
theorem hindcastlaw05_TreeOnce_ok {a0 : (List GApiNode)} {r_ : Bool} (h : hindcastlaw05_TreeOnce a0 = some r_) : R_hindcastlaw05_TreeOnce a0 r_ := by
  unfold hindcastlaw05_TreeOnce at h
  refine fn_pureX (fn := Try.f6) (by kernel_rfl) (c := subC (bodyC Try.prog 6) []) (by kernel_rfl) (by kernel_rfl) (Nat.le_of_ble_eq_true (by kernel_rfl)) ?_
  generalize hQ' : retQ Try.prog Try.f6 (aB r_) = Q'
  have kr : ∀ (ns : List (Nat × Nat × Nat)) (s : LS) (x : Bool), retX Try.prog ns [.tmp 2] s = some (aB x) → x = r_ → Q' .ret s.st := by subst hQ'; intro ns s x hx hq; subst hq; exact ret_ok (fn := Try.f6) ns hx
  change W Try.prog _ (LS.mk 94 [(0, .t (.sl 6 (a0.map c_GApiNode)))] []).st Q'
  refine W_seq ?_
  refine W_y (s' := LS.mk 94 [(0, .t (.sl 6 (a0.map c_GApiNode)))] []) mixed [qn0] ⟨[0], [], [], [], [], [], []⟩ aN (by kernel_rfl) ?_
  refine W_seq ?_
  refine W_seq ?_
  refine (Bool.eq_false_or_eq_true (decide ((a0.length : Int) > 100))).elim (fun hb1 => ?_) (fun hb1 => ?_)
  · have hx2 := hb1
    have h := if_t h hx2
    refine W_y (s' := LS.mk 94 [(0, .t (.sl 6 (a0.map c_GApiNode))), (15, aB true)] []) mixed [qn0, qn (.len a0.length), qn0, qn0, qt0, qt0, qt0, qn (.dec true)] ⟨[0, 15], [], [], [], [], [], []⟩ (aC (len_obx c_GApiNode a0) (aC hx2 (aC hx2 (aC hx2 (aC hx2 aN))))) (by kernel_rfl) ?_
    refine W_cond true (by kernel_rfl) (fun _ => ?_) (fun hb => nomatch ((rfl : true = true).symm.trans hb))
    obtain ⟨n, h⟩ := fix_rec h
    exact W_conv (s' := LS.mk 94 [] []) ⟨[], [], [], [], [], [], []⟩ (by kernel_rfl) (hindcastlaw05_TreeOnce_j0_ok n r_ _ kr h)
  · have hx2 := hb1
    have h := if_f h hx2
    obtain ⟨r1_5, hr1_5, h⟩ := bind_ok h
    have hr1_5 := hindcastref05_Right_ok hr1_5
    refine W_y (s' := LS.mk 94 [(0, .t (.sl 6 (a0.map c_GApiNode))), (15, aB (!r1_5))] []) mixed [qn0, qn (.len a0.length), qn0, qn0, qf0, qf (.call [] (aB r1_5)), qf0, qn (.dec false)] ⟨[0, 15], [], [], [], [], [], []⟩ (aC (len_obx c_GApiNode a0) (aC hx2 (aC hx2 (aC hr1_5 (aC hx2 (aC hx2 aN)))))) (by kernel_rfl) ?_
    refine W_cond (!r1_5) (by kernel_rfl) (fun hb3 => ?_) (fun hb3 => ?_)
    · have hx4 : r1_5 = false := (bnot_t hb3)
      have h := ib_f h hx4
      obtain ⟨n, h⟩ := fix_rec h
      exact W_conv (s' := LS.mk 94 [] []) ⟨[], [], [], [], [], [], []⟩ (by kernel_rfl) (hindcastlaw05_TreeOnce_j0_ok n r_ _ kr h)
    · have hx4 : r1_5 = true := (bnot_f hb3)
      have h := ib_t h hx4
      refine W_skip ?_
      refine W_seq ?_
      obtain ⟨hd5, h⟩ := ite_ok h
      refine W_y (s' := LS.mk 94 [(0, .t (.sl 6 (a0.map c_GApiNode))), (3, .ref 1003)] [(1003, some (.row 3 1 ((List.replicate (Int.toNat (a0.length : Int)) 0).map c_i64)))]) mixed [qn0, qn (.len a0.length), qn (.makes 3 1 ((List.replicate (Int.toNat (a0.length : Int)) 0).map c_i64)), qn0] ⟨[0, 3], [], [], [], [(19, 1003)], [], []⟩ (aC (len_obx c_GApiNode a0) (aC (show Makes Try.prog (opAt (subC (bodyC Try.prog 6) [1, 1, 0]) 2) [aI .i64 (a0.length : Int), aI .i64 (a0.length : Int)] 3 1 ((List.replicate (Int.toNat (a0.length : Int)) 0).map c_i64) from make_ob (by rfl) (by kernel_rfl) ti3 (by rfl) (by kernel_rfl) (by rfl) c_i64 0 (by kernel_rfl) hd5) aN)) (by kernel_rfl) ?_
      refine W_seq ?_
      refine W_seq ?_
      refine W_y (s' := LS.mk 94 [(0, .t (.sl 6 (a0.map c_GApiNode))), (3, .ref 1003), (21, aI .i64 (a0.length : Int)), (22, aI .i64 0)] [(1003, some (.row 3 1 ((List.replicate (Int.toNat (a0.length : Int)) 0).map c_i64)))]) mixed [qn0, qn (.len a0.length), qn0] ⟨[0, 3, 21, 22], [], [], [], [(1003, 1003)], [], []⟩ (aC (len_obx c_GApiNode a0) aN) (by kernel_rfl) ?_
      refine W_block ?_
      obtain ⟨n, h⟩ := fix_rec h
      exact W_conv (s' := LS.mk 94 [(0, .t (.sl 6 (a0.map c_GApiNode))), (3, .ref 1003), (21, aI .i64 (a0.length : Int)), (22, aI .i64 0)] [(1003, some (.row 3 1 ((List.replicate (Int.toNat (a0.length : Int)) 0).map c_i64)))]) ⟨[0, 3, 21, 22], [], [], [], [(1003, 1003)], [], []⟩ (by kernel_rfl) (hindcastlaw05_TreeOnce_l1_ok n a0 0 (List.replicate (Int.toNat (a0.length : Int)) 0) r_ _ kr (fun q1 hq1 w3_1003 s' h hf => W_pre hf (hindcastlaw05_TreeOnce_j3_ok q1 a0 w3_1003 r_ _ kr h)) h)
def R_hindcastref05_Many (a0 : (List GApiNode)) (r : Bool) : Prop := FnP Try.prog 8 [.t (.sl 6 (a0.map c_GApiNode))] (aB r)
inductive hindcastref05_Many_C where
  | l0 (a0 : (List GApiNode)) (v0_3_0 : Int) (v0_7_0 : Int)
  | j1 
abbrev hindcastref05_Many_C_T : hindcastref05_Many_C → Type := fun _ => Bool
noncomputable def hindcastref05_Many_l0_b (g : (i : hindcastref05_Many_C) → Option (hindcastref05_Many_C_T i)) (a0 : (List GApiNode)) (v0_3_0 : Int) (v0_7_0 : Int) : Option Bool :=
  (if v0_7_0 < (a0.length : Int) then ((getI a0 v0_7_0).bind fun (x5_3 : GApiNode) => (if (w64 (v0_3_0 + (w64 (1 + (if (5000 : Int) < (x5_3.Text.length : Int) then 5000 else (x5_3.Text.length : Int)))))) > 4000 then (some true) else g (.l0 a0 (w64 (v0_3_0 + (w64 (1 + (if (5000 : Int) < (x5_3.Text.length : Int) then 5000 else (x5_3.Text.length : Int)))))) (w64 (v0_7_0 + 1))))) else g (.j1))
noncomputable def hindcastref05_Many_j1_b (g : (i : hindcastref05_Many_C) → Option (hindcastref05_Many_C_T i))  : Option Bool :=
  (some false)
noncomputable def hindcastref05_Many_B (g : (i : hindcastref05_Many_C) → Option (hindcastref05_Many_C_T i)) : (i : hindcastref05_Many_C) → Option (hindcastref05_Many_C_T i)
  | .l0 a0 v0_3_0 v0_7_0 => hindcastref05_Many_l0_b g a0 v0_3_0 v0_7_0
  | .j1  => hindcastref05_Many_j1_b g 
theorem hindcastref05_Many_B_fin (i : hindcastref05_Many_C) : Fin1 (fun g => hindcastref05_Many_B g i) := by
  cases i with
  | l0 a0 v0_3_0 v0_7_0 => show Fin1 (fun g => hindcastref05_Many_l0_b g a0 v0_3_0 v0_7_0); unfold hindcastref05_Many_l0_b; repeat (first | refine fin_bind ?_ (fun _ => ?_) | refine fin_ite ?_ ?_ | exact fin_ask _ | exact fin_const _)
  | j1  => show Fin1 (fun g => hindcastref05_Many_j1_b g ); unfold hindcastref05_Many_j1_b; repeat (first | refine fin_bind ?_ (fun _ => ?_) | refine fin_ite ?_ ?_ | exact fin_ask _ | exact fin_const _)
noncomputable def hindcastref05_Many_l0 (a0 : (List GApiNode)) (v0_3_0 : Int) (v0_7_0 : Int) : Option Bool := fixD hindcastref05_Many_B (.l0 a0 v0_3_0 v0_7_0)
noncomputable def hindcastref05_Many_j1  : Option Bool := fixD hindcastref05_Many_B (.j1 )
theorem hindcastref05_Many_l0_eq (a0 : (List GApiNode)) (v0_3_0 : Int) (v0_7_0 : Int) : hindcastref05_Many_l0 a0 v0_3_0 v0_7_0 =
  (if v0_7_0 < (a0.length : Int) then ((getI a0 v0_7_0).bind fun (x5_3 : GApiNode) => (if (w64 (v0_3_0 + (w64 (1 + (if (5000 : Int) < (x5_3.Text.length : Int) then 5000 else (x5_3.Text.length : Int)))))) > 4000 then (some true) else hindcastref05_Many_l0 a0 (w64 (v0_3_0 + (w64 (1 + (if (5000 : Int) < (x5_3.Text.length : Int) then 5000 else (x5_3.Text.length : Int)))))) (w64 (v0_7_0 + 1)))) else hindcastref05_Many_j1) := fix_eq hindcastref05_Many_B_fin _
theorem hindcastref05_Many_j1_eq  : hindcastref05_Many_j1  =
  (some false) := fix_eq hindcastref05_Many_B_fin _
set_option maxRecDepth 100000 in
theorem hindcastref05_Many_l0_ok (n : Nat)  (a0 : (List GApiNode)) (v0_3_0 : Int) (v0_7_0 : Int) (r_ : Bool) (Q' : Exit → St → Prop) (kr : ∀ (ns : List (Nat × Nat × Nat)) (s : LS) (x : Bool), retX Try.prog ns [.tmp 2] s = some (aB x) → x = r_ → Q' .ret s.st) (k_x_0 : ∀ (q : Nat), q < n → ∀  (s' : LS), recN hindcastref05_Many_B q (.j1 ) = some r_ → Fits s'.st (LS.mk 23 [] []).st → Q' (.exit 0) s'.st) (h : recN hindcastref05_Many_B n (.l0 a0 v0_3_0 v0_7_0) = some r_) : W Try.prog (subC (bodyC Try.prog 8) [1, 1, 0, 1, 0]) (LS.mk 23 [(0, .t (.sl 6 (a0.map c_GApiNode))), (3, aI .i64 v0_3_0), (6, aI .i64 (a0.length : Int)), (7, aI .i64 v0_7_0)] []).st Q' := by
  refine W_fix (σ := Int × Int) (fun m x_ => m ≤ n ∧ recN hindcastref05_Many_B m (.l0 a0 x_.1 x_.2) = some r_) (fun x_ => LS.mk 23 [(0, .t (.sl 6 (a0.map c_GApiNode))), (3, aI .i64 x_.1), (6, aI .i64 (a0.length : Int)), (7, aI .i64 x_.2)] []) (fun x hx => by cases hx.2) (fun _ _ => rfl) ?_ n (v0_3_0, v0_7_0) ⟨Nat.le_refl _, h⟩
  clear h
  rintro m ⟨v0_3_0, v0_7_0⟩ ⟨hlt, h⟩
  replace h : hindcastref05_Many_l0_b (recN hindcastref05_Many_B m) a0 v0_3_0 v0_7_0 = some r_ := h
  unfold hindcastref05_Many_l0_b at h
  refine W_seq ?_
  refine W_y (s' := LS.mk 23 [(0, .t (.sl 6 (a0.map c_GApiNode))), (3, aI .i64 v0_3_0), (6, aI .i64 (a0.length : Int)), (7, aI .i64 v0_7_0), (8, aB (decide (v0_7_0 < (a0.length : Int))))] []) mixed [qn0] ⟨[0, 3, 6, 7, 8], [], [], [], [], [], []⟩ aN (by kernel_rfl) ?_
  refine W_seq ?_
  refine W_cond (decide (v0_7_0 < (a0.length : Int))) (by kernel_rfl) (fun hb1001 => ?_) (fun hb1001 => ?_)
  · have hx1002 := hb1001
    have h := if_t h hx1002
    refine W_skip ?_
    refine W_seq ?_
    refine W_block ?_
    refine W_seq ?_
    refine W_y (s' := LS.mk 23 [(0, .t (.sl 6 (a0.map c_GApiNode))), (3, aI .i64 v0_3_0), (4, aI .i64 v0_7_0), (6, aI .i64 (a0.length : Int)), (7, aI .i64 v0_7_0)] []) mixed [qn0, qn0] ⟨[0, 3, 4, 6, 7], [], [], [], [], [], []⟩ aN (by kernel_rfl) ?_
    refine W_seq ?_
    obtain ⟨x5_3, hx5_3, h⟩ := bind_ok h
    refine W_y (s' := LS.mk 23 [(0, .t (.sl 6 (a0.map c_GApiNode))), (3, aI .i64 (w64 (v0_3_0 + (w64 (1 + (if (5000 : Int) < (x5_3.Text.length : Int) then 5000 else (x5_3.Text.length : Int))))))), (6, aI .i64 (a0.length : Int)), (7, aI .i64 v0_7_0)] []) mixed [qn0, qn0, qn0, qn (.ix (Int.toNat v0_7_0) (c_GApiNode x5_3)), qn0, qn0, qn0, qn (.quiet (aI .i64 (if (5000 : Int) < (x5_3.Text.length : Int) then 5000 else (x5_3.Text.length : Int)))), qn0, qn0, qn0] ⟨[0, 3, 6, 7], [], [], [], [], [], []⟩ (aC (ix_obx c_GApiNode hx5_3) (aC (show Quiet Try.prog (opAt (subC (bodyC Try.prog 8) [1, 1, 0, 1, 0, 0, 1, 1, 0, 0, 1, 0]) 7) [aI .i64 (x5_3.Text.length : Int), aI .i64 5000] (aI .i64 (if (5000 : Int) < (x5_3.Text.length : Int) then 5000 else (x5_3.Text.length : Int))) from min_ob (by rfl) (by rfl) (by rfl)) aN)) (by kernel_rfl) ?_
    refine W_seq ?_
    refine W_y (s' := LS.mk 23 [(0, .t (.sl 6 (a0.map c_GApiNode))), (3, aI .i64 (w64 (v0_3_0 + (w64 (1 + (if (5000 : Int) < (x5_3.Text.length : Int) then 5000 else (x5_3.Text.length : Int))))))), (6, aI .i64 (a0.length : Int)), (7, aI .i64 v0_7_0), (21, aB (decide ((w64 (v0_3_0 + (w64 (1 + (if (5000 : Int) < (x5_3.Text.length : Int) then 5000 else (x5_3.Text.length : Int)))))) > 4000)))] []) mixed [qn0, qn0] ⟨[0, 3, 6, 7, 21], [], [], [], [], [], []⟩ aN (by kernel_rfl) ?_
    refine W_cond (decide ((w64 (v0_3_0 + (w64 (1 + (if (5000 : Int) < (x5_3.Text.length : Int) then 5000 else (x5_3.Text.length : Int)))))) > 4000)) (by kernel_rfl) (fun hb1003 => ?_) (fun hb1003 => ?_)
    · have hx1004 := hb1003
      have h := if_t h hx1004
      refine W_seq ?_
      refine W_y (s' := LS.mk 23 [(2, aB true)] []) mixed [qn0] ⟨[2], [], [], [], [], [], []⟩ aN (by kernel_rfl) ?_
      refine W_ret ?_
      exact kr [] _ _ (by kernel_rfl) (Option.some.inj h)
    · have hx1004 := hb1003
      have h := if_f h hx1004
      refine W_skip ?_
      refine W_y (s' := LS.mk 23 [(0, .t (.sl 6 (a0.map c_GApiNode))), (3, aI .i64 (w64 (v0_3_0 + (w64 (1 + (if (5000 : Int) < (x5_3.Text.length : Int) then 5000 else (x5_3.Text.length : Int))))))), (6, aI .i64 (a0.length : Int)), (7, aI .i64 (w64 (v0_7_0 + 1)))] []) mixed [qn0, qn0] ⟨[0, 3, 6, 7], [], [], [], [], [], []⟩ aN (by kernel_rfl) ?_
      exact ⟨m, ((w64 (v0_3_0 + (w64 (1 + (if (5000 : Int) < (x5_3.Text.length : Int) then 5000 else (x5_3.Text.length : Int)))))), (w64 (v0_7_0 + 1))), Nat.le_refl _, ⟨Nat.le_of_lt hlt, h⟩, convX_fits (v := ⟨[0, 3, 6, 7], [], [], [], [], [], []⟩) (s' := LS.mk 23 [(0, .t (.sl 6 (a0.map c_GApiNode))), (3, aI .i64 (w64 (v0_3_0 + (w64 (1 + (if (5000 : Int) < (x5_3.Text.length : Int) then 5000 else (x5_3.Text.length : Int))))))), (6, aI .i64 (a0.length : Int)), (7, aI .i64 (w64 (v0_7_0 + 1)))] []) (by kernel_rfl)⟩
  · have hx1002 := hb1001
    have h := if_f h hx1002
    refine W_exit ?_
    exact k_x_0 m hlt  _ h (convX_fits (v := ⟨[], [], [], [], [], [], []⟩) (s' := LS.mk 23 [] []) (by kernel_rfl))
set_option maxRecDepth 100000 in
theorem hindcastref05_Many_j1_ok (n : Nat)   (r_ : Bool) (Q' : Exit → St → Prop) (kr : ∀ (ns : List (Nat × Nat × Nat)) (s : LS) (x : Bool), retX Try.prog ns [.tmp 2] s = some (aB x) → x = r_ → Q' .ret s.st)  (h : recN hindcastref05_Many_B n (.j1 ) = some r_) : W Try.prog (subC (bodyC Try.prog 8) [1, 1, 1]) (LS.mk 23 [] []).st Q' := by
  cases n with
  | zero => cases h
  | succ m =>
  have hlt : m < m + 1 := Nat.lt_succ_self m
  replace h : hindcastref05_Many_j1_b (recN hindcastref05_Many_B m)  = some r_ := h
  unfold hindcastref05_Many_j1_b at h
  refine W_seq ?_
  refine W_y (s' := LS.mk 23 [(2, aB false)] []) mixed [qn0] ⟨[2], [], [], [], [], [], []⟩ aN (by kernel_rfl) ?_
  refine W_ret ?_
  exact kr [] _ _ (by kernel_rfl) (Option.some.inj h)
noncomputable def hindcastref05_Many (a0 : (List GApiNode)) : Option Bool :=
  hindcastref05_Many_l0 a0 0 0
set_option maxRecDepth 100000 in
theorem hindcastref05_Many_ok {a0 : (List GApiNode)} {r_ : Bool} (h : hindcastref05_Many a0 = some r_) : R_hindcastref05_Many a0 r_ := by
  unfold hindcastref05_Many at h
  refine fn_pureX (fn := Try.f8) (by kernel_rfl) (c := subC (bodyC Try.prog 8) []) (by kernel_rfl) (by kernel_rfl) (Nat.le_of_ble_eq_true (by kernel_rfl)) ?_
  generalize hQ' : retQ Try.prog Try.f8 (aB r_) = Q'
  have kr : ∀ (ns : List (Nat × Nat × Nat)) (s : LS) (x : Bool), retX Try.prog ns [.tmp 2] s = some (aB x) → x = r_ → Q' .ret s.st := by subst hQ'; intro ns s x hx hq; subst hq; exact ret_ok (fn := Try.f8) ns hx
  change W Try.prog _ (LS.mk 23 [(0, .t (.sl 6 (a0.map c_GApiNode)))] []).st Q'
  refine W_seq ?_
  refine W_y (s' := LS.mk 23 [(0, .t (.sl 6 (a0.map c_GApiNode)))] []) mixed [qn0] ⟨[0], [], [], [], [], [], []⟩ aN (by kernel_rfl) ?_
  refine W_seq ?_
  refine W_y (s' := LS.mk 23 [(0, .t (.sl 6 (a0.map c_GApiNode))), (3, aI .i64 0)] []) mixed [qn0] ⟨[0, 3], [], [], [], [], [], []⟩ aN (by kernel_rfl) ?_
  refine W_seq ?_
  refine W_seq ?_
  refine W_y (s' := LS.mk 23 [(0, .t (.sl 6 (a0.map c_GApiNode))), (3, aI .i64 0), (6, aI .i64 (a0.length : Int)), (7, aI .i64 0)] []) mixed [qn0, qn (.len a0.length), qn0] ⟨[0, 3, 6, 7], [], [], [], [], [], []⟩ (aC (len_obx c_GApiNode a0) aN) (by kernel_rfl) ?_
  refine W_block ?_
  obtain ⟨n, h⟩ := fix_rec h
  exact W_conv (s' := LS.mk 23 [(0, .t (.sl 6 (a0.map c_GApiNode))), (3, aI .i64 0), (6, aI .i64 (a0.length : Int)), (7, aI .i64 0)] []) ⟨[0, 3, 6, 7], [], [], [], [], [], []⟩ (by kernel_rfl) (hindcastref05_Many_l0_ok n a0 0 0 r_ _ kr (fun q1 hq1  s' h hf => W_pre hf (hindcastref05_Many_j1_ok q1 r_ _ kr h)) h)
def RI_slices_Clone_api_Node (a0 : (List GApiNode)) (r : (List GApiNode)) : Prop := FnIO Try.prog 39 [.t (.sl 6 (a0.map c_GApiNode))] [] (.ref 800000) [(800000, .row 32 6 (r.map c_GApiNode))]
def R_slices_Clone_api_Node (a0 : (List GApiNode)) (r : (List GApiNode)) : Prop := FnP Try.prog 39 [.t (.sl 6 (a0.map c_GApiNode))] (.t (.sl 6 (r.map c_GApiNode)))
noncomputable def slices_Clone_api_Node (a0 : (List GApiNode)) : Option (List GApiNode) :=
  (if AppOb 56 (([] : List GApiNode).length + a0.length) then (some (([] : List GApiNode) ++ a0)) else none)
set_option maxRecDepth 100000 in
theorem slices_Clone_api_Node_ok {a0 : (List GApiNode)} {r_ : (List GApiNode)} (h : slices_Clone_api_Node a0 = some r_) : RI_slices_Clone_api_Node a0 r_ := by
  unfold slices_Clone_api_Node at h
  refine fn_ioX (fn := Try.f39) (by kernel_rfl) (c := subC (bodyC Try.prog 39) []) (by kernel_rfl) (by kernel_rfl) (Nat.le_of_ble_eq_true (by kernel_rfl)) (Nat.le_of_ble_eq_true (by kernel_rfl)) ?_
  generalize hQ' : retIO Try.prog Try.f39 (.ref 800000) [(800000, .row 32 6 (r_.map c_GApiNode))] = Q'
  have kr : ∀ (v : CV) (s : LS) (x : (List GApiNode)), retIOX Try.prog v [.tmp 2] s = some ((.ref 800000), [(800000, .row 32 6 (x.map c_GApiNode))]) → x = r_ → Q' .ret s.st := by subst hQ'; intro ns s x hx hq; subst hq; exact retIO_ret (fn := Try.f39) ns hx
  change W Try.prog _ (LS.mk 8 [(0, .t (.sl 6 (a0.map c_GApiNode)))] []).st Q'
  by_cases hne : a0 = []
  · subst hne
    refine W_case 0 6 (by kernel_rfl) (by kernel_rfl) (fun ad cap hcm => ?_)
    cases ad with
    | none =>
      obtain ⟨_, h⟩ := ite_ok h
      refine W_seq ?_
      refine W_y (s' := LS.mk 8 [(0, .t (.v (.slice none 0 cap)))] []) mixed [qn0] ⟨[0], [], [], [], [], [], []⟩ aN (by kernel_rfl) ?_
      refine W_seq ?_
      refine W_seq ?_
      refine W_y (s' := LS.mk 8 [(0, .t (.v (.slice none 0 cap))), (4, aB true)] []) mixed [qn0, qn (.quiet (aB true))] ⟨[0, 4], [], [], [], [], [], []⟩ (aC (show Quiet Try.prog (opAt (subC (bodyC Try.prog 39) [1, 0, 0]) 1) [.t (.v (.slice none 0 cap)), aNil] (aB true) from nilt_v (e := 32) (ne := false) ⟨_, by rfl⟩ (by kernel_rfl)) aN) (by kernel_rfl) ?_
      refine W_cond true (by kernel_rfl) (fun _ => ?_) (fun hb => nomatch ((rfl : true = true).symm.trans hb))
      refine W_seq ?_
      refine W_y (s' := LS.mk 8 [(2, aNil)] []) mixed [qn0] ⟨[2], [], [], [], [], [], []⟩ aN (by kernel_rfl) ?_
      refine W_ret ?_
      exact kr ⟨[], [(0, 0, .row 800000)], [], [], [], [], [(800000, 32, 6)]⟩ _ ([] : List GApiNode) (by kernel_rfl) (Option.some.inj h)
    | some p =>
      refine W_seq ?_
      refine W_y (s' := LS.mk 8 [(0, .t (.v (.slice (some p) 0 cap)))] []) mixed [qn0] ⟨[0], [], [], [], [], [], []⟩ aN (by kernel_rfl) ?_
      refine W_seq ?_
      refine W_seq ?_
      refine W_y (s' := LS.mk 8 [(0, .t (.v (.slice (some p) 0 cap))), (4, aB false)] []) mixed [qn0, qn (.quiet (aB false))] ⟨[0, 4], [], [], [], [], [], []⟩ (aC (show Quiet Try.prog (opAt (subC (bodyC Try.prog 39) [1, 0, 0]) 1) [.t (.v (.slice (some p) 0 cap)), aNil] (aB false) from nilt_v (e := 32) (ne := false) ⟨_, by rfl⟩ (by kernel_rfl)) aN) (by kernel_rfl) ?_
      refine W_cond false (by kernel_rfl) (fun hb => nomatch ((rfl : false = false).symm.trans hb)) (fun _ => ?_)
      refine W_skip ?_
      refine W_seq ?_
      refine W_back 0 6 (some p) cap (by kernel_rfl) (by kernel_rfl) hcm ?_
      obtain ⟨hd1, h⟩ := ite_ok h
      refine W_y (s' := LS.mk 8 [(2, .ref 1002)] [(1002, some (.row 32 6 ((([] : List GApiNode) ++ ([] : List GApiNode)).map c_GApiNode)))]) mixed [qn0, qn0, qn (.rows ((([] : List GApiNode) ++ ([] : List GApiNode)).map c_GApiNode)), qn0] ⟨[2], [], [], [], [(7, 1002)], [], []⟩ (aC (ap_obx c_GApiNode hd1) (aC (app_obx c_GApiNode ([] : List GApiNode) ([] : List GApiNode)) aN)) (by kernel_rfl) ?_
      refine W_ret ?_
      exact kr ⟨[], [], [], [], [(1002, 800000)], [], []⟩ _ (([] : List GApiNode) ++ ([] : List GApiNode)) (by kernel_rfl) (Option.some.inj h)
  · refine W_seq ?_
    refine W_y (s' := LS.mk 8 [(0, .t (.sl 6 (a0.map c_GApiNode)))] []) mixed [qn0] ⟨[0], [], [], [], [], [], []⟩ aN (by kernel_rfl) ?_
    refine W_seq ?_
    refine W_seq ?_
    refine W_y (s' := LS.mk 8 [(0, .t (.sl 6 (a0.map c_GApiNode))), (4, aB false)] []) mixed [qn0, qn (.quiet (aB false))] ⟨[0, 4], [], [], [], [], [], []⟩ (aC (show Quiet Try.prog (opAt (subC (bodyC Try.prog 39) [1, 0, 0]) 1) [.t (.sl 6 (a0.map c_GApiNode)), aNil] (aB false) from nilt_f (e := 32) (ne := false) ⟨_, by rfl⟩ (by kernel_rfl) (fun hh => hne (List.map_eq_nil_iff.1 hh))) aN) (by kernel_rfl) ?_
    refine W_cond false (by kernel_rfl) (fun hb => nomatch ((rfl : false = false).symm.trans hb)) (fun _ => ?_)
    refine W_skip ?_
    refine W_seq ?_
    obtain ⟨hd1, h⟩ := ite_ok h
    refine W_y (s' := LS.mk 8 [(2, .ref 1002)] [(1002, some (.row 32 6 ((([] : List GApiNode) ++ a0).map c_GApiNode)))]) mixed [qn0, qn0, qn (.rows ((([] : List GApiNode) ++ a0).map c_GApiNode)), qn0] ⟨[2], [], [], [], [(7, 1002)], [], []⟩ (aC (ap_obx c_GApiNode hd1) (aC (app_obx c_GApiNode ([] : List GApiNode) a0) aN)) (by kernel_rfl) ?_
    refine W_ret ?_
    exact kr ⟨[], [], [], [], [(1002, 800000)], [], []⟩ _ (([] : List GApiNode) ++ a0) (by kernel_rfl) (Option.some.inj h)
theorem slices_Clone_api_Node_okp {a0 : (List GApiNode)} {r_ : (List GApiNode)} (h : slices_Clone_api_Node a0 = some r_) : R_slices_Clone_api_Node a0 r_ := fnio_pure (slices_Clone_api_Node_ok h) (by kernel_rfl) (by kernel_rfl)
def RI_tree_Bare (a0 : (List GApiNode)) (r : (List GApiNode)) : Prop := FnIO Try.prog 22 [.t (.sl 6 (a0.map c_GApiNode))] [] (.ref 800000) [(800000, .row 32 6 (r.map c_GApiNode))]
def R_tree_Bare (a0 : (List GApiNode)) (r : (List GApiNode)) : Prop := FnP Try.prog 22 [.t (.sl 6 (a0.map c_GApiNode))] (.t (.sl 6 (r.map c_GApiNode)))
inductive tree_Bare_C where
  | l0 (r1_1 : (List GApiNode)) (v0_9_0 : Int) (w0_1003 : (List GApiNode))
  | j1 (w0_1003 : (List GApiNode))
abbrev tree_Bare_C_T : tree_Bare_C → Type := fun _ => (List GApiNode)
noncomputable def tree_Bare_l0_b (g : (i : tree_Bare_C) → Option (tree_Bare_C_T i)) (r1_1 : (List GApiNode)) (v0_9_0 : Int) (w0_1003 : (List GApiNode)) : Option (List GApiNode) :=
  (if v0_9_0 < (r1_1.length : Int) then ((getI w0_1003 v0_9_0).bind fun (x5_4 : GApiNode) => g (.l0 r1_1 (w64 (v0_9_0 + 1)) ((w0_1003.set (Int.toNat v0_9_0) (GApiNode.mk x5_4.Kind 0 x5_4.Col x5_4.Size x5_4.Num x5_4.Text)).set (Int.toNat v0_9_0) (GApiNode.mk ((GApiNode.mk x5_4.Kind 0 x5_4.Col x5_4.Size x5_4.Num x5_4.Text).Kind) ((GApiNode.mk x5_4.Kind 0 x5_4.Col x5_4.Size x5_4.Num x5_4.Text).Line) 0 ((GApiNode.mk x5_4.Kind 0 x5_4.Col x5_4.Size x5_4.Num x5_4.Text).Size) ((GApiNode.mk x5_4.Kind 0 x5_4.Col x5_4.Size x5_4.Num x5_4.Text).Num) ((GApiNode.mk x5_4.Kind 0 x5_4.Col x5_4.Size x5_4.Num x5_4.Text).Text))))) else g (.j1 w0_1003))
noncomputable def tree_Bare_j1_b (g : (i : tree_Bare_C) → Option (tree_Bare_C_T i)) (w0_1003 : (List GApiNode)) : Option (List GApiNode) :=
  (some w0_1003)
noncomputable def tree_Bare_B (g : (i : tree_Bare_C) → Option (tree_Bare_C_T i)) : (i : tree_Bare_C) → Option (tree_Bare_C_T i)
  | .l0 r1_1 v0_9_0 w0_1003 => tree_Bare_l0_b g r1_1 v0_9_0 w0_1003
  | .j1 w0_1003 => tree_Bare_j1_b g w0_1003
theorem tree_Bare_B_fin (i : tree_Bare_C) : Fin1 (fun g => tree_Bare_B g i) := by
  cases i with
  | l0 r1_1 v0_9_0 w0_1003 => show Fin1 (fun g => tree_Bare_l0_b g r1_1 v0_9_0 w0_1003); unfold tree_Bare_l0_b; repeat (first | refine fin_bind ?_ (fun _ => ?_) | refine fin_ite ?_ ?_ | exact fin_ask _ | exact fin_const _)
  | j1 w0_1003 => show Fin1 (fun g => tree_Bare_j1_b g w0_1003); unfold tree_Bare_j1_b; repeat (first | refine fin_bind ?_ (fun _ => ?_) | refine fin_ite ?_ ?_ | exact fin_ask _ | exact fin_const _)
noncomputable def tree_Bare_l0 (r1_1 : (List GApiNode)) (v0_9_0 : Int) (w0_1003 : (List GApiNode)) : Option (List GApiNode) := fixD tree_Bare_B (.l0 r1_1 v0_9_0 w0_1003)
noncomputable def tree_Bare_j1 (w0_1003 : (List GApiNode)) : Option (List GApiNode) := fixD tree_Bare_B (.j1 w0_1003)
theorem tree_Bare_l0_eq (r1_1 : (List GApiNode)) (v0_9_0 : Int) (w0_1003 : (List GApiNode)) : tree_Bare_l0 r1_1 v0_9_0 w0_1003 =
  (if v0_9_0 < (r1_1.length : Int) then ((getI w0_1003 v0_9_0).bind fun (x5_4 : GApiNode) => tree_Bare_l0 r1_1 (w64 (v0_9_0 + 1)) ((w0_1003.set (Int.toNat v0_9_0) (GApiNode.mk x5_4.Kind 0 x5_4.Col x5_4.Size x5_4.Num x5_4.Text)).set (Int.toNat v0_9_0) (GApiNode.mk ((GApiNode.mk x5_4.Kind 0 x5_4.Col x5_4.Size x5_4.Num x5_4.Text).Kind) ((GApiNode.mk x5_4.Kind 0 x5_4.Col x5_4.Size x5_4.Num x5_4.Text).Line) 0 ((GApiNode.mk x5_4.Kind 0 x5_4.Col x5_4.Size x5_4.Num x5_4.Text).Size) ((GApiNode.mk x5_4.Kind 0 x5_4.Col x5_4.Size x5_4.Num x5_4.Text).Num) ((GApiNode.mk x5_4.Kind 0 x5_4.Col x5_4.Size x5_4.Num x5_4.Text).Text)))) else tree_Bare_j1 w0_1003) := fix_eq tree_Bare_B_fin _
theorem tree_Bare_j1_eq (w0_1003 : (List GApiNode)) : tree_Bare_j1 w0_1003 =
  (some w0_1003) := fix_eq tree_Bare_B_fin _
set_option maxRecDepth 100000 in
theorem tree_Bare_l0_ok (n : Nat)  (r1_1 : (List GApiNode)) (v0_9_0 : Int) (w0_1003 : (List GApiNode)) (r_ : (List GApiNode)) (Q' : Exit → St → Prop) (kr : ∀ (v : CV) (s : LS) (x : (List GApiNode)), retIOX Try.prog v [.tmp 2] s = some ((.ref 800000), [(800000, .row 32 6 (x.map c_GApiNode))]) → x = r_ → Q' .ret s.st) (k_x_0 : ∀ (q : Nat), q < n → ∀ (w0_1003 : (List GApiNode)) (s' : LS), recN tree_Bare_B q (.j1 w0_1003) = some r_ → Fits s'.st (LS.mk 22 [(3, .ref 1003)] [(1003, some (.row 32 6 (w0_1003.map c_GApiNode)))]).st → Q' (.exit 0) s'.st) (h : recN tree_Bare_B n (.l0 r1_1 v0_9_0 w0_1003) = some r_) : W Try.prog (subC (bodyC Try.prog 22) [1, 1, 0, 1, 0]) (LS.mk 22 [(3, .ref 1003), (8, aI .i64 (r1_1.length : Int)), (9, aI .i64 v0_9_0)] [(1003, some (.row 32 6 (w0_1003.map c_GApiNode)))]).st Q' := by
  refine W_fix (σ := Int × (List GApiNode)) (fun m x_ => m ≤ n ∧ recN tree_Bare_B m (.l0 r1_1 x_.1 x_.2) = some r_) (fun x_ => LS.mk 22 [(3, .ref 1003), (8, aI .i64 (r1_1.length : Int)), (9, aI .i64 x_.1)] [(1003, some (.row 32 6 (x_.2.map c_GApiNode)))]) (fun x hx => by cases hx.2) (fun _ _ => rfl) ?_ n (v0_9_0, w0_1003) ⟨Nat.le_refl _, h⟩
  clear h
  rintro m ⟨v0_9_0, w0_1003⟩ ⟨hlt, h⟩
  replace h : tree_Bare_l0_b (recN tree_Bare_B m) r1_1 v0_9_0 w0_1003 = some r_ := h
  unfold tree_Bare_l0_b at h
  refine W_seq ?_
  refine W_y (s' := LS.mk 22 [(3, .ref 1003), (8, aI .i64 (r1_1.length : Int)), (9, aI .i64 v0_9_0), (10, aB (decide (v0_9_0 < (r1_1.length : Int))))] [(1003, some (.row 32 6 (w0_1003.map c_GApiNode)))]) mixed [qn0] ⟨[3, 8, 9, 10], [], [], [], [(1003, 1003)], [], []⟩ aN (by kernel_rfl) ?_
  refine W_seq ?_
  refine W_cond (decide (v0_9_0 < (r1_1.length : Int))) (by kernel_rfl) (fun hb1001 => ?_) (fun hb1001 => ?_)
  · have hx1002 := hb1001
    have h := if_t h hx1002
    refine W_skip ?_
    refine W_seq ?_
    refine W_block ?_
    refine W_seq ?_
    refine W_y (s' := LS.mk 22 [(3, .ref 1003), (4, aI .i64 v0_9_0), (8, aI .i64 (r1_1.length : Int)), (9, aI .i64 v0_9_0)] [(1003, some (.row 32 6 (w0_1003.map c_GApiNode)))]) mixed [qn0, qn0] ⟨[3, 4, 8, 9], [], [], [], [(1003, 1003)], [], []⟩ aN (by kernel_rfl) ?_
    obtain ⟨x5_4, hx5_4, h⟩ := bind_ok h
    have hx1003 := getI_set hx5_4 (GApiNode.mk x5_4.Kind 0 x5_4.Col x5_4.Size x5_4.Num x5_4.Text)
    have hx1004 := getI_set hx1003 (GApiNode.mk ((GApiNode.mk x5_4.Kind 0 x5_4.Col x5_4.Size x5_4.Num x5_4.Text).Kind) ((GApiNode.mk x5_4.Kind 0 x5_4.Col x5_4.Size x5_4.Num x5_4.Text).Line) 0 ((GApiNode.mk x5_4.Kind 0 x5_4.Col x5_4.Size x5_4.Num x5_4.Text).Size) ((GApiNode.mk x5_4.Kind 0 x5_4.Col x5_4.Size x5_4.Num x5_4.Text).Num) ((GApiNode.mk x5_4.Kind 0 x5_4.Col x5_4.Size x5_4.Num x5_4.Text).Text))
    refine W_y (s' := LS.mk 22 [(3, .ref 1003), (8, aI .i64 (r1_1.length : Int)), (9, aI .i64 v0_9_0)] [(1003, some (.row 32 6 (((w0_1003.set (Int.toNat v0_9_0) (GApiNode.mk x5_4.Kind 0 x5_4.Col x5_4.Size x5_4.Num x5_4.Text)).set (Int.toNat v0_9_0) (GApiNode.mk ((GApiNode.mk x5_4.Kind 0 x5_4.Col x5_4.Size x5_4.Num x5_4.Text).Kind) ((GApiNode.mk x5_4.Kind 0 x5_4.Col x5_4.Size x5_4.Num x5_4.Text).Line) 0 ((GApiNode.mk x5_4.Kind 0 x5_4.Col x5_4.Size x5_4.Num x5_4.Text).Size) ((GApiNode.mk x5_4.Kind 0 x5_4.Col x5_4.Size x5_4.Num x5_4.Text).Num) ((GApiNode.mk x5_4.Kind 0 x5_4.Col x5_4.Size x5_4.Num x5_4.Text).Text))).map c_GApiNode)))]) mixed [qn0, qn0, qn0, qn0, qn (.ix (Int.toNat v0_9_0) (c_GApiNode x5_4)), qn (.ix (Int.toNat v0_9_0) (c_GApiNode x5_4)), qn (.set (c_GApiNode x5_4) ((w0_1003.set (Int.toNat v0_9_0) (GApiNode.mk x5_4.Kind 0 x5_4.Col x5_4.Size x5_4.Num x5_4.Text)).map c_GApiNode)), qn (.ix (Int.toNat v0_9_0) (c_GApiNode (GApiNode.mk x5_4.Kind 0 x5_4.Col x5_4.Size x5_4.Num x5_4.Text))), qn (.ix (Int.toNat v0_9_0) (c_GApiNode (GApiNode.mk x5_4.Kind 0 x5_4.Col x5_4.Size x5_4.Num x5_4.Text))), qn (.set (c_GApiNode (GApiNode.mk x5_4.Kind 0 x5_4.Col x5_4.Size x5_4.Num x5_4.Text)) (((w0_1003.set (Int.toNat v0_9_0) (GApiNode.mk x5_4.Kind 0 x5_4.Col x5_4.Size x5_4.Num x5_4.Text)).set (Int.toNat v0_9_0) (GApiNode.mk ((GApiNode.mk x5_4.Kind 0 x5_4.Col x5_4.Size x5_4.Num x5_4.Text).Kind) ((GApiNode.mk x5_4.Kind 0 x5_4.Col x5_4.Size x5_4.Num x5_4.Text).Line) 0 ((GApiNode.mk x5_4.Kind 0 x5_4.Col x5_4.Size x5_4.Num x5_4.Text).Size) ((GApiNode.mk x5_4.Kind 0 x5_4.Col x5_4.Size x5_4.Num x5_4.Text).Num) ((GApiNode.mk x5_4.Kind 0 x5_4.Col x5_4.Size x5_4.Num x5_4.Text).Text))).map c_GApiNode))] ⟨[3, 8, 9], [], [], [], [(1003, 1003)], [], []⟩ (aC (ix_obx c_GApiNode hx5_4) (aC (el_obx c_GApiNode hx5_4) (aC (el_obx c_GApiNode hx5_4) (aC (set_obx c_GApiNode w0_1003 (Int.toNat v0_9_0) (GApiNode.mk x5_4.Kind 0 x5_4.Col x5_4.Size x5_4.Num x5_4.Text)) (aC (ix_obx c_GApiNode hx1003) (aC (el_obx c_GApiNode hx1003) (aC (el_obx c_GApiNode hx1003) (aC (set_obx c_GApiNode (w0_1003.set (Int.toNat v0_9_0) (GApiNode.mk x5_4.Kind 0 x5_4.Col x5_4.Size x5_4.Num x5_4.Text)) (Int.toNat v0_9_0) (GApiNode.mk ((GApiNode.mk x5_4.Kind 0 x5_4.Col x5_4.Size x5_4.Num x5_4.Text).Kind) ((GApiNode.mk x5_4.Kind 0 x5_4.Col x5_4.Size x5_4.Num x5_4.Text).Line) 0 ((GApiNode.mk x5_4.Kind 0 x5_4.Col x5_4.Size x5_4.Num x5_4.Text).Size) ((GApiNode.mk x5_4.Kind 0 x5_4.Col x5_4.Size x5_4.Num x5_4.Text).Num) ((GApiNode.mk x5_4.Kind 0 x5_4.Col x5_4.Size x5_4.Num x5_4.Text).Text))) aN)))))))) (by kernel_rfl) ?_
    refine W_y (s' := LS.mk 22 [(3, .ref 1003), (8, aI .i64 (r1_1.length : Int)), (9, aI .i64 (w64 (v0_9_0 + 1)))] [(1003, some (.row 32 6 (((w0_1003.set (Int.toNat v0_9_0) (GApiNode.mk x5_4.Kind 0 x5_4.Col x5_4.Size x5_4.Num x5_4.Text)).set (Int.toNat v0_9_0) (GApiNode.mk ((GApiNode.mk x5_4.Kind 0 x5_4.Col x5_4.Size x5_4.Num x5_4.Text).Kind) ((GApiNode.mk x5_4.Kind 0 x5_4.Col x5_4.Size x5_4.Num x5_4.Text).Line) 0 ((GApiNode.mk x5_4.Kind 0 x5_4.Col x5_4.Size x5_4.Num x5_4.Text).Size) ((GApiNode.mk x5_4.Kind 0 x5_4.Col x5_4.Size x5_4.Num x5_4.Text).Num) ((GApiNode.mk x5_4.Kind 0 x5_4.Col x5_4.Size x5_4.Num x5_4.Text).Text))).map c_GApiNode)))]) mixed [qn0, qn0] ⟨[3, 8, 9], [], [], [], [(1003, 1003)], [], []⟩ aN (by kernel_rfl) ?_
    exact ⟨m, ((w64 (v0_9_0 + 1)), ((w0_1003.set (Int.toNat v0_9_0) (GApiNode.mk x5_4.Kind 0 x5_4.Col x5_4.Size x5_4.Num x5_4.Text)).set (Int.toNat v0_9_0) (GApiNode.mk ((GApiNode.mk x5_4.Kind 0 x5_4.Col x5_4.Size x5_4.Num x5_4.Text).Kind) ((GApiNode.mk x5_4.Kind 0 x5_4.Col x5_4.Size x5_4.Num x5_4.Text).Line) 0 ((GApiNode.mk x5_4.Kind 0 x5_4.Col x5_4.Size x5_4.Num x5_4.Text).Size) ((GApiNode.mk x5_4.Kind 0 x5_4.Col x5_4.Size x5_4.Num x5_4.Text).Num) ((GApiNode.mk x5_4.Kind 0 x5_4.Col x5_4.Size x5_4.Num x5_4.Text).Text)))), Nat.le_refl _, ⟨Nat.le_of_lt hlt, h⟩, convX_fits (v := ⟨[3, 8, 9], [], [], [], [(1003, 1003)], [], []⟩) (s' := LS.mk 22 [(3, .ref 1003), (8, aI .i64 (r1_1.length : Int)), (9, aI .i64 (w64 (v0_9_0 + 1)))] [(1003, some (.row 32 6 (((w0_1003.set (Int.toNat v0_9_0) (GApiNode.mk x5_4.Kind 0 x5_4.Col x5_4.Size x5_4.Num x5_4.Text)).set (Int.toNat v0_9_0) (GApiNode.mk ((GApiNode.mk x5_4.Kind 0 x5_4.Col x5_4.Size x5_4.Num x5_4.Text).Kind) ((GApiNode.mk x5_4.Kind 0 x5_4.Col x5_4.Size x5_4.Num x5_4.Text).Line) 0 ((GApiNode.mk x5_4.Kind 0 x5_4.Col x5_4.Size x5_4.Num x5_4.Text).Size) ((GApiNode.mk x5_4.Kind 0 x5_4.Col x5_4.Size x5_4.Num x5_4.Text).Num) ((GApiNode.mk x5_4.Kind 0 x5_4.Col x5_4.Size x5_4.Num x5_4.Text).Text))).map c_GApiNode)))]) (by kernel_rfl)⟩
  · have hx1002 := hb1001
    have h := if_f h hx1002
    refine W_exit ?_
    exact k_x_0 m hlt w0_1003 _ h (convX_fits (v := ⟨[3], [], [], [], [(1003, 1003)], [], []⟩) (s' := LS.mk 22 [(3, .ref 1003)] [(1003, some (.row 32 6 (w0_1003.map c_GApiNode)))]) (by kernel_rfl))
set_option maxRecDepth 100000 in
theorem tree_Bare_j1_ok (n : Nat)  (w0_1003 : (List GApiNode)) (r_ : (List GApiNode)) (Q' : Exit → St → Prop) (kr : ∀ (v : CV) (s : LS) (x : (List GApiNode)), retIOX Try.prog v [.tmp 2] s = some ((.ref 800000), [(800000, .row 32 6 (x.map c_GApiNode))]) → x = r_ → Q' .ret s.st)  (h : recN tree_Bare_B n (.j1 w0_1003) = some r_) : W Try.prog (subC (bodyC Try.prog 22) [1, 1, 1]) (LS.mk 22 [(3, .ref 1003)] [(1003, some (.row 32 6 (w0_1003.map c_GApiNode)))]).st Q' := by
  cases n with
  | zero => cases h
  | succ m =>
  have hlt : m < m + 1 := Nat.lt_succ_self m
  replace h : tree_Bare_j1_b (recN tree_Bare_B m) w0_1003 = some r_ := h
  unfold tree_Bare_j1_b at h
  refine W_seq ?_
  refine W_y (s' := LS.mk 22 [(2, .ref 1002)] [(1002, some (.row 32 6 (w0_1003.map c_GApiNode)))]) mixed [qn0, qn0] ⟨[2], [], [], [], [(1003, 1002)], [], []⟩ aN (by kernel_rfl) ?_
  refine W_ret ?_
  exact kr ⟨[], [], [], [], [(1002, 800000)], [], []⟩ _ w0_1003 (by kernel_rfl) (Option.some.inj h)
noncomputable def tree_Bare (a0 : (List GApiNode)) : Option (List GApiNode) :=
  ((slices_Clone_api_Node a0).bind fun (r1_1 : (List GApiNode)) => tree_Bare_l0 r1_1 0 r1_1)
set_option maxRecDepth 100000 in
theorem tree_Bare_ok {a0 : (List GApiNode)} {r_ : (List GApiNode)} (h : tree_Bare a0 = some r_) : RI_tree_Bare a0 r_ := by
  unfold tree_Bare at h
  refine fn_ioX (fn := Try.f22) (by kernel_rfl) (c := subC (bodyC Try.prog 22) []) (by kernel_rfl) (by kernel_rfl) (Nat.le_of_ble_eq_true (by kernel_rfl)) (Nat.le_of_ble_eq_true (by kernel_rfl)) ?_
  generalize hQ' : retIO Try.prog Try.f22 (.ref 800000) [(800000, .row 32 6 (r_.map c_GApiNode))] = Q'
  have kr : ∀ (v : CV) (s : LS) (x : (List GApiNode)), retIOX Try.prog v [.tmp 2] s = some ((.ref 800000), [(800000, .row 32 6 (x.map c_GApiNode))]) → x = r_ → Q' .ret s.st := by subst hQ'; intro ns s x hx hq; subst hq; exact retIO_ret (fn := Try.f22) ns hx
  change W Try.prog _ (LS.mk 22 [(0, .t (.sl 6 (a0.map c_GApiNode)))] []).st Q'
  refine W_seq ?_
  refine W_y (s' := LS.mk 22 [(0, .t (.sl 6 (a0.map c_GApiNode)))] []) mixed [qn0] ⟨[0], [], [], [], [], [], []⟩ aN (by kernel_rfl) ?_
  refine W_seq ?_
  obtain ⟨r1_1, hr1_1, h⟩ := bind_ok h
  have hr1_1 := slices_Clone_api_Node_ok hr1_1
  refine W_y (s' := LS.mk 22 [(3, .ref 1003)] [(1003, some (.row 32 6 (r1_1.map c_GApiNode)))]) mixed [qn0, qn (.io ⟨[], [], [], [], [], [], [(800000, 6)]⟩ (.ref 800000) [(800000, .row 32 6 (r1_1.map c_GApiNode))]), qn0] ⟨[3], [], [], [], [(6, 1003)], [], []⟩ (aC hr1_1 aN) (by kernel_rfl) ?_
  refine W_seq ?_
  refine W_seq ?_
  refine W_y (s' := LS.mk 22 [(3, .ref 1003), (8, aI .i64 (r1_1.length : Int)), (9, aI .i64 0)] [(1003, some (.row 32 6 (r1_1.map c_GApiNode)))]) mixed [qn0, qn (.len r1_1.length), qn0] ⟨[3, 8, 9], [], [], [], [(1003, 1003)], [], []⟩ (aC (len_obx c_GApiNode r1_1) aN) (by kernel_rfl) ?_
  refine W_block ?_
  obtain ⟨n, h⟩ := fix_rec h
  exact W_conv (s' := LS.mk 22 [(3, .ref 1003), (8, aI .i64 (r1_1.length : Int)), (9, aI .i64 0)] [(1003, some (.row 32 6 (r1_1.map c_GApiNode)))]) ⟨[3, 8, 9], [], [], [], [(1003, 1003)], [], []⟩ (by kernel_rfl) (tree_Bare_l0_ok n r1_1 0 r1_1 r_ _ kr (fun q1 hq1 w0_1003 s' h hf => W_pre hf (tree_Bare_j1_ok q1 w0_1003 r_ _ kr h)) h)
theorem tree_Bare_okp {a0 : (List GApiNode)} {r_ : (List GApiNode)} (h : tree_Bare a0 = some r_) : R_tree_Bare a0 r_ := fnio_pure (tree_Bare_ok h) (by kernel_rfl) (by kernel_rfl)
def R_hindcastref05_Same (a0 : (List GApiNode)) (a1 : (List GApiNode)) (r : Bool) : Prop := FnP Try.prog 23 [.t (.sl 6 (a0.map c_GApiNode)), .t (.sl 6 (a1.map c_GApiNode))] (aB r)
inductive hindcastref05_Same_C where
  | l0 (a0 : (List GApiNode)) (a1 : (List GApiNode)) (v0_13_0 : Int)
  | j1 
abbrev hindcastref05_Same_C_T : hindcastref05_Same_C → Type := fun _ => Bool
noncomputable def hindcastref05_Same_l0_b (g : (i : hindcastref05_Same_C) → Option (hindcastref05_Same_C_T i)) (a0 : (List GApiNode)) (a1 : (List GApiNode)) (v0_13_0 : Int) : Option Bool :=
  (if v0_13_0 < (a0.length : Int) then ((getI a0 v0_13_0).bind fun (x6_2 : GApiNode) => ((getI a1 v0_13_0).bind fun (x6_7 : GApiNode) => (if x6_2.Kind = x6_7.Kind then (if x6_2.Size = x6_7.Size then (if x6_2.Num = x6_7.Num then (if x6_2.Text = x6_7.Text then g (.l0 a0 a1 (w64 (v0_13_0 + 1))) else (some false)) else (some false)) else (some false)) else (some false)))) else g (.j1))
noncomputable def hindcastref05_Same_j1_b (g : (i : hindcastref05_Same_C) → Option (hindcastref05_Same_C_T i))  : Option Bool :=
  (some true)
noncomputable def hindcastref05_Same_B (g : (i : hindcastref05_Same_C) → Option (hindcastref05_Same_C_T i)) : (i : hindcastref05_Same_C) → Option (hindcastref05_Same_C_T i)
  | .l0 a0 a1 v0_13_0 => hindcastref05_Same_l0_b g a0 a1 v0_13_0
  | .j1  => hindcastref05_Same_j1_b g 
theorem hindcastref05_Same_B_fin (i : hindcastref05_Same_C) : Fin1 (fun g => hindcastref05_Same_B g i) := by
  cases i with
  | l0 a0 a1 v0_13_0 => show Fin1 (fun g => hindcastref05_Same_l0_b g a0 a1 v0_13_0); unfold hindcastref05_Same_l0_b; repeat (first | refine fin_bind ?_ (fun _ => ?_) | refine fin_ite ?_ ?_ | exact fin_ask _ | exact fin_const _)
  | j1  => show Fin1 (fun g => hindcastref05_Same_j1_b g ); unfold hindcastref05_Same_j1_b; repeat (first | refine fin_bind ?_ (fun _ => ?_) | refine fin_ite ?_ ?_ | exact fin_ask _ | exact fin_const _)
noncomputable def hindcastref05_Same_l0 (a0 : (List GApiNode)) (a1 : (List GApiNode)) (v0_13_0 : Int) : Option Bool := fixD hindcastref05_Same_B (.l0 a0 a1 v0_13_0)
noncomputable def hindcastref05_Same_j1  : Option Bool := fixD hindcastref05_Same_B (.j1 )
theorem hindcastref05_Same_l0_eq (a0 : (List GApiNode)) (a1 : (List GApiNode)) (v0_13_0 : Int) : hindcastref05_Same_l0 a0 a1 v0_13_0 =
  (if v0_13_0 < (a0.length : Int) then ((getI a0 v0_13_0).bind fun (x6_2 : GApiNode) => ((getI a1 v0_13_0).bind fun (x6_7 : GApiNode) => (if x6_2.Kind = x6_7.Kind then (if x6_2.Size = x6_7.Size then (if x6_2.Num = x6_7.Num then (if x6_2.Text = x6_7.Text then hindcastref05_Same_l0 a0 a1 (w64 (v0_13_0 + 1)) else (some false)) else (some false)) else (some false)) else (some false)))) else hindcastref05_Same_j1) := fix_eq hindcastref05_Same_B_fin _
theorem hindcastref05_Same_j1_eq  : hindcastref05_Same_j1  =
  (some true) := fix_eq hindcastref05_Same_B_fin _
set_option maxRecDepth 100000 in
theorem hindcastref05_Same_l0_ok (n : Nat)  (a0 : (List GApiNode)) (a1 : (List GApiNode)) (v0_13_0 : Int) (r_ : Bool) (Q' : Exit → St → Prop) (kr : ∀ (ns : List (Nat × Nat × Nat)) (s : LS) (x : Bool), retX Try.prog ns [.tmp 4] s = some (aB x) → x = r_ → Q' .ret s.st) (k_x_0 : ∀ (q : Nat), q < n → ∀  (s' : LS), recN hindcastref05_Same_B q (.j1 ) = some r_ → Fits s'.st (LS.mk 67 [] []).st → Q' (.exit 0) s'.st) (h : recN hindcastref05_Same_B n (.l0 a0 a1 v0_13_0) = some r_) : W Try.prog (subC (bodyC Try.prog 23) [1, 1, 0, 1, 0]) (LS.mk 67 [(0, .t (.sl 6 (a0.map c_GApiNode))), (1, .t (.sl 6 (a1.map c_GApiNode))), (12, aI .i64 (a0.length : Int)), (13, aI .i64 v0_13_0)] []).st Q' := by
  refine W_fix (σ := Int) (fun m x_ => m ≤ n ∧ recN hindcastref05_Same_B m (.l0 a0 a1 x_) = some r_) (fun x_ => LS.mk 67 [(0, .t (.sl 6 (a0.map c_GApiNode))), (1, .t (.sl 6 (a1.map c_GApiNode))), (12, aI .i64 (a0.length : Int)), (13, aI .i64 x_)] []) (fun x hx => by cases hx.2) (fun _ _ => rfl) ?_ n (v0_13_0) ⟨Nat.le_refl _, h⟩
  clear h
  rintro m v0_13_0 ⟨hlt, h⟩
  replace h : hindcastref05_Same_l0_b (recN hindcastref05_Same_B m) a0 a1 v0_13_0 = some r_ := h
  unfold hindcastref05_Same_l0_b at h
  refine W_seq ?_
  refine W_y (s' := LS.mk 67 [(0, .t (.sl 6 (a0.map c_GApiNode))), (1, .t (.sl 6 (a1.map c_GApiNode))), (12, aI .i64 (a0.length : Int)), (13, aI .i64 v0_13_0), (14, aB (decide (v0_13_0 < (a0.length : Int))))] []) mixed [qn0] ⟨[0, 1, 12, 13, 14], [], [], [], [], [], []⟩ aN (by kernel_rfl) ?_
  refine W_seq ?_
  refine W_cond (decide (v0_13_0 < (a0.length : Int))) (by kernel_rfl) (fun hb1001 => ?_) (fun hb1001 => ?_)
  · have hx1002 := hb1001
    have h := if_t h hx1002
    refine W_skip ?_
    refine W_seq ?_
    refine W_block ?_
    refine W_seq ?_
    refine W_y (s' := LS.mk 67 [(0, .t (.sl 6 (a0.map c_GApiNode))), (1, .t (.sl 6 (a1.map c_GApiNode))), (5, aI .i64 v0_13_0), (12, aI .i64 (a0.length : Int)), (13, aI .i64 v0_13_0)] []) mixed [qn0, qn0] ⟨[0, 1, 5, 12, 13], [], [], [], [], [], []⟩ aN (by kernel_rfl) ?_
    refine W_seq ?_
    obtain ⟨x6_2, hx6_2, h⟩ := bind_ok h
    obtain ⟨x6_7, hx6_7, h⟩ := bind_ok h
    refine (Bool.eq_false_or_eq_true (!(decide (x6_2.Kind = x6_7.Kind)))).elim (fun hb1003 => ?_) (fun hb1003 => ?_)
    · have hx1004 : (decide (x6_2.Kind = x6_7.Kind)) = false := (bnot_t hb1003)
      have h := if_f h hx1004
      refine W_y (s' := LS.mk 67 [(0, .t (.sl 6 (a0.map c_GApiNode))), (1, .t (.sl 6 (a1.map c_GApiNode))), (12, aI .i64 (a0.length : Int)), (13, aI .i64 v0_13_0), (65, aB true)] []) mixed [qn0, qn0, qn (.ix (Int.toNat v0_13_0) (c_GApiNode x6_2)), qn0, qn0, qn0, qn0, qn (.ix (Int.toNat v0_13_0) (c_GApiNode x6_7)), qn0, qn0, qn0, qn0, qt0, qt0, qt0, qt0, qt0, qt0, qt0, qt0, qt0, qt0, qt0, qn (.dec true), qn0, qn0, qn0, qn0, qn0, qn0, qn0, qn0, qn0, qn0, qn0, qn0, qn0, qn0, qn0, qn0, qn0, qn0, qn0, qn0, qn0, qn0, qn0, qn0, qn0, qn0] ⟨[0, 1, 12, 13, 65], [], [], [], [], [], []⟩ (aC (ix_obx c_GApiNode hx6_2) (aC (ix_obx c_GApiNode hx6_7) (aC (not_f hx1004) (aC (not_f hx1004) (aC (not_f hx1004) (aC (not_f hx1004) (aC (not_f hx1004) (aC (not_f hx1004) (aC (not_f hx1004) (aC (not_f hx1004) (aC (not_f hx1004) (aC (not_f hx1004) (aC (not_f hx1004) (aC (not_f hx1004) aN)))))))))))))) (by kernel_rfl) ?_
      refine W_cond true (by kernel_rfl) (fun _ => ?_) (fun hb => nomatch ((rfl : true = true).symm.trans hb))
      refine W_seq ?_
      refine W_y (s' := LS.mk 67 [(4, aB false)] []) mixed [qn0] ⟨[4], [], [], [], [], [], []⟩ aN (by kernel_rfl) ?_
      refine W_ret ?_
      exact kr [] _ _ (by kernel_rfl) (Option.some.inj h)
    · have hx1004 : (decide (x6_2.Kind = x6_7.Kind)) = true := (bnot_f hb1003)
      have h := if_t h hx1004
      refine (Bool.eq_false_or_eq_true (!(decide (x6_2.Size = x6_7.Size)))).elim (fun hb1005 => ?_) (fun hb1005 => ?_)
      · have hx1006 : (decide (x6_2.Size = x6_7.Size)) = false := (bnot_t hb1005)
        have h := if_f h hx1006
        refine W_y (s' := LS.mk 67 [(0, .t (.sl 6 (a0.map c_GApiNode))), (1, .t (.sl 6 (a1.map c_GApiNode))), (12, aI .i64 (a0.length : Int)), (13, aI .i64 v0_13_0), (65, aB true)] []) mixed [qn0, qn0, qn (.ix (Int.toNat v0_13_0) (c_GApiNode x6_2)), qn0, qn0, qn0, qn0, qn (.ix (Int.toNat v0_13_0) (c_GApiNode x6_7)), qn0, qn0, qn0, qn0, qf0, qf0, qf (.ix (Int.toNat v0_13_0) (c_GApiNode x6_2)), qf0, qf0, qf0, qf0, qf (.ix (Int.toNat v0_13_0) (c_GApiNode x6_7)), qf0, qf0, qf0, qn (.dec false), qn0, qt0, qt0, qt0, qt0, qt0, qt0, qt0, qt0, qt0, qt0, qt0, qn (.dec true), qn0, qn0, qn0, qn0, qn0, qn0, qn0, qn0, qn0, qn0, qn0, qn0, qn0] ⟨[0, 1, 12, 13, 65], [], [], [], [], [], []⟩ (aC (ix_obx c_GApiNode hx6_2) (aC (ix_obx c_GApiNode hx6_7) (aC (not_t hx1004) (aC (not_t hx1004) (aC (not_t hx1004) (aC (ix_obx c_GApiNode hx6_2) (aC (not_t hx1004) (aC (not_t hx1004) (aC (not_t hx1004) (aC (not_t hx1004) (aC (not_t hx1004) (aC (ix_obx c_GApiNode hx6_7) (aC (not_t hx1004) (aC (not_t hx1004) (aC (not_t hx1004) (aC (not_t hx1004) (aC (not_f hx1006) (aC (not_f hx1006) (aC (not_f hx1006) (aC (not_f hx1006) (aC (not_f hx1006) (aC (not_f hx1006) (aC (not_f hx1006) (aC (not_f hx1006) (aC (not_f hx1006) (aC (not_f hx1006) (aC (not_f hx1006) (aC (not_f hx1006) aN)))))))))))))))))))))))))))) (by kernel_rfl) ?_
        refine W_cond true (by kernel_rfl) (fun _ => ?_) (fun hb => nomatch ((rfl : true = true).symm.trans hb))
        refine W_seq ?_
        refine W_y (s' := LS.mk 67 [(4, aB false)] []) mixed [qn0] ⟨[4], [], [], [], [], [], []⟩ aN (by kernel_rfl) ?_
        refine W_ret ?_
        exact kr [] _ _ (by kernel_rfl) (Option.some.inj h)
      · have hx1006 : (decide (x6_2.Size = x6_7.Size)) = true := (bnot_f hb1005)
        have h := if_t h hx1006
        refine (Bool.eq_false_or_eq_true (!(decide (x6_2.Num = x6_7.Num)))).elim (fun hb1007 => ?_) (fun hb1007 => ?_)
        · have hx1008 : (decide (x6_2.Num = x6_7.Num)) = false := (bnot_t hb1007)
          have h := if_f h hx1008
          refine W_y (s' := LS.mk 67 [(0, .t (.sl 6 (a0.map c_GApiNode))), (1, .t (.sl 6 (a1.map c_GApiNode))), (12, aI .i64 (a0.length : Int)), (13, aI .i64 v0_13_0), (65, aB true)] []) mixed [qn0, qn0, qn (.ix (Int.toNat v0_13_0) (c_GApiNode x6_2)), qn0, qn0, qn0, qn0, qn (.ix (Int.toNat v0_13_0) (c_GApiNode x6_7)), qn0, qn0, qn0, qn0, qf0, qf0, qf (.ix (Int.toNat v0_13_0) (c_GApiNode x6_2)), qf0, qf0, qf0, qf0, qf (.ix (Int.toNat v0_13_0) (c_GApiNode x6_7)), qf0, qf0, qf0, qn (.dec false), qn0, qf0, qf0, qf (.ix (Int.toNat v0_13_0) (c_GApiNode x6_2)), qf0, qf0, qf0, qf0, qf (.ix (Int.toNat v0_13_0) (c_GApiNode x6_7)), qf0, qf0, qf0, qn (.dec false), qn0, qt0, qt0, qt0, qt0, qt0, qt0, qt0, qt0, qt0, qt0, qt0, qn (.dec true)] ⟨[0, 1, 12, 13, 65], [], [], [], [], [], []⟩ (aC (ix_obx c_GApiNode hx6_2) (aC (ix_obx c_GApiNode hx6_7) (aC (not_t hx1004) (aC (not_t hx1004) (aC (not_t hx1004) (aC (ix_obx c_GApiNode hx6_2) (aC (not_t hx1004) (aC (not_t hx1004) (aC (not_t hx1004) (aC (not_t hx1004) (aC (not_t hx1004) (aC (ix_obx c_GApiNode hx6_7) (aC (not_t hx1004) (aC (not_t hx1004) (aC (not_t hx1004) (aC (not_t hx1004) (aC (not_t hx1006) (aC (not_t hx1006) (aC (not_t hx1006) (aC (ix_obx c_GApiNode hx6_2) (aC (not_t hx1006) (aC (not_t hx1006) (aC (not_t hx1006) (aC (not_t hx1006) (aC (not_t hx1006) (aC (ix_obx c_GApiNode hx6_7) (aC (not_t hx1006) (aC (not_t hx1006) (aC (not_t hx1006) (aC (not_t hx1006) (aC (not_f hx1008) (aC (not_f hx1008) (aC (not_f hx1008) (aC (not_f hx1008) (aC (not_f hx1008) (aC (not_f hx1008) (aC (not_f hx1008) (aC (not_f hx1008) (aC (not_f hx1008) (aC (not_f hx1008) (aC (not_f hx1008) (aC (not_f hx1008) aN)))))))))))))))))))))))))))))))))))))))))) (by kernel_rfl) ?_
          refine W_cond true (by kernel_rfl) (fun _ => ?_) (fun hb => nomatch ((rfl : true = true).symm.trans hb))
          refine W_seq ?_
          refine W_y (s' := LS.mk 67 [(4, aB false)] []) mixed [qn0] ⟨[4], [], [], [], [], [], []⟩ aN (by kernel_rfl) ?_
          refine W_ret ?_
          exact kr [] _ _ (by kernel_rfl) (Option.some.inj h)
        · have hx1008 : (decide (x6_2.Num = x6_7.Num)) = true := (bnot_f hb1007)
          have h := if_t h hx1008
          refine W_y (s' := LS.mk 67 [(0, .t (.sl 6 (a0.map c_GApiNode))), (1, .t (.sl 6 (a1.map c_GApiNode))), (12, aI .i64 (a0.length : Int)), (13, aI .i64 v0_13_0), (65, aB (!(decide (x6_2.Text = x6_7.Text))))] []) mixed [qn0, qn0, qn (.ix (Int.toNat v0_13_0) (c_GApiNode x6_2)), qn0, qn0, qn0, qn0, qn (.ix (Int.toNat v0_13_0) (c_GApiNode x6_7)), qn0, qn0, qn0, qn0, qf0, qf0, qf (.ix (Int.toNat v0_13_0) (c_GApiNode x6_2)), qf0, qf0, qf0, qf0, qf (.ix (Int.toNat v0_13_0) (c_GApiNode x6_7)), qf0, qf0, qf0, qn (.dec false), qn0, qf0, qf0, qf (.ix (Int.toNat v0_13_0) (c_GApiNode x6_2)), qf0, qf0, qf0, qf0, qf (.ix (Int.toNat v0_13_0) (c_GApiNode x6_7)), qf0, qf0, qf0, qn (.dec false), qn0, qf0, qf0, qf (.ix (Int.toNat v0_13_0) (c_GApiNode x6_2)), qf0, qf0, qf0, qf0, qf (.ix (Int.toNat v0_13_0) (c_GApiNode x6_7)), qf0, qf0, qf (.val (.bool (!(decide (x6_2.Text = x6_7.Text))))), qn (.dec false)] ⟨[0, 1, 12, 13, 65], [], [], [], [], [], []⟩ (aC (ix_obx c_GApiNode hx6_2) (aC (ix_obx c_GApiNode hx6_7) (aC (not_t hx1004) (aC (not_t hx1004) (aC (not_t hx1004) (aC (ix_obx c_GApiNode hx6_2) (aC (not_t hx1004) (aC (not_t hx1004) (aC (not_t hx1004) (aC (not_t hx1004) (aC (not_t hx1004) (aC (ix_obx c_GApiNode hx6_7) (aC (not_t hx1004) (aC (not_t hx1004) (aC (not_t hx1004) (aC (not_t hx1004) (aC (not_t hx1006) (aC (not_t hx1006) (aC (not_t hx1006) (aC (ix_obx c_GApiNode hx6_2) (aC (not_t hx1006) (aC (not_t hx1006) (aC (not_t hx1006) (aC (not_t hx1006) (aC (not_t hx1006) (aC (ix_obx c_GApiNode hx6_7) (aC (not_t hx1006) (aC (not_t hx1006) (aC (not_t hx1006) (aC (not_t hx1006) (aC (not_t hx1008) (aC (not_t hx1008) (aC (not_t hx1008) (aC (ix_obx c_GApiNode hx6_2) (aC (not_t hx1008) (aC (not_t hx1008) (aC (not_t hx1008) (aC (not_t hx1008) (aC (not_t hx1008) (aC (ix_obx c_GApiNode hx6_7) (aC (not_t hx1008) (aC (not_t hx1008) (aC (not_t hx1008) (aC (str_ne_ob (P := Try.prog) 9 x6_2.Text x6_7.Text) (aC (not_t hx1008) aN))))))))))))))))))))))))))))))))))))))))))))) (by kernel_rfl) ?_
          refine W_cond (!(decide (x6_2.Text = x6_7.Text))) (by kernel_rfl) (fun hb1009 => ?_) (fun hb1009 => ?_)
          · have hx1010 : (decide (x6_2.Text = x6_7.Text)) = false := (bnot_t hb1009)
            have h := if_f h hx1010
            refine W_seq ?_
            refine W_y (s' := LS.mk 67 [(4, aB false)] []) mixed [qn0] ⟨[4], [], [], [], [], [], []⟩ aN (by kernel_rfl) ?_
            refine W_ret ?_
            exact kr [] _ _ (by kernel_rfl) (Option.some.inj h)
          · have hx1010 : (decide (x6_2.Text = x6_7.Text)) = true := (bnot_f hb1009)
            have h := if_t h hx1010
            refine W_skip ?_
            refine W_y (s' := LS.mk 67 [(0, .t (.sl 6 (a0.map c_GApiNode))), (1, .t (.sl 6 (a1.map c_GApiNode))), (12, aI .i64 (a0.length : Int)), (13, aI .i64 (w64 (v0_13_0 + 1)))] []) mixed [qn0, qn0] ⟨[0, 1, 12, 13], [], [], [], [], [], []⟩ aN (by kernel_rfl) ?_
            exact ⟨m, ((w64 (v0_13_0 + 1))), Nat.le_refl _, ⟨Nat.le_of_lt hlt, h⟩, convX_fits (v := ⟨[0, 1, 12, 13], [], [], [], [], [], []⟩) (s' := LS.mk 67 [(0, .t (.sl 6 (a0.map c_GApiNode))), (1, .t (.sl 6 (a1.map c_GApiNode))), (12, aI .i64 (a0.length : Int)), (13, aI .i64 (w64 (v0_13_0 + 1)))] []) (by kernel_rfl)⟩
  · have hx1002 := hb1001
    have h := if_f h hx1002
    refine W_exit ?_
    exact k_x_0 m hlt  _ h (convX_fits (v := ⟨[], [], [], [], [], [], []⟩) (s' := LS.mk 67 [] []) (by kernel_rfl))
set_option maxRecDepth 100000 in
theorem hindcastref05_Same_j1_ok (n : Nat)   (r_ : Bool) (Q' : Exit → St → Prop) (kr : ∀ (ns : List (Nat × Nat × Nat)) (s : LS) (x : Bool), retX Try.prog ns [.tmp 4] s = some (aB x) → x = r_ → Q' .ret s.st)  (h : recN hindcastref05_Same_B n (.j1 ) = some r_) : W Try.prog (subC (bodyC Try.prog 23) [1, 1, 1]) (LS.mk 67 [] []).st Q' := by
  cases n with
  | zero => cases h
  | succ m =>
  have hlt : m < m + 1 := Nat.lt_succ_self m
  replace h : hindcastref05_Same_j1_b (recN hindcastref05_Same_B m)  = some r_ := h
  unfold hindcastref05_Same_j1_b at h
  refine W_seq ?_
  refine W_y (s' := LS.mk 67 [(4, aB true)] []) mixed [qn0] ⟨[4], [], [], [], [], [], []⟩ aN (by kernel_rfl) ?_
  refine W_ret ?_
  exact kr [] _ _ (by kernel_rfl) (Option.some.inj h)
noncomputable def hindcastref05_Same (a0 : (List GApiNode)) (a1 : (List GApiNode)) : Option Bool :=
  (if (a0.length : Int) = (a1.length : Int) then hindcastref05_Same_l0 a0 a1 0 else (some false))
set_option maxRecDepth 100000 in
theorem hindcastref05_Same_ok {a0 : (List GApiNode)} {a1 : (List GApiNode)} {r_ : Bool} (h : hindcastref05_Same a0 a1 = some r_) : R_hindcastref05_Same a0 a1 r_ := by
  unfold hindcastref05_Same at h
  refine fn_pureX (fn := Try.f23) (by kernel_rfl) (c := subC (bodyC Try.prog 23) []) (by kernel_rfl) (by kernel_rfl) (Nat.le_of_ble_eq_true (by kernel_rfl)) ?_
  generalize hQ' : retQ Try.prog Try.f23 (aB r_) = Q'
  have kr : ∀ (ns : List (Nat × Nat × Nat)) (s : LS) (x : Bool), retX Try.prog ns [.tmp 4] s = some (aB x) → x = r_ → Q' .ret s.st := by subst hQ'; intro ns s x hx hq; subst hq; exact ret_ok (fn := Try.f23) ns hx
  change W Try.prog _ (LS.mk 67 [(0, .t (.sl 6 (a0.map c_GApiNode))), (1, .t (.sl 6 (a1.map c_GApiNode)))] []).st Q'
  refine W_seq ?_
  refine W_y (s' := LS.mk 67 [(0, .t (.sl 6 (a0.map c_GApiNode))), (1, .t (.sl 6 (a1.map c_GApiNode)))] []) mixed [qn0] ⟨[0, 1], [], [], [], [], [], []⟩ aN (by kernel_rfl) ?_
  refine W_seq ?_
  refine W_seq ?_
  refine W_y (s' := LS.mk 67 [(0, .t (.sl 6 (a0.map c_GApiNode))), (1, .t (.sl 6 (a1.map c_GApiNode))), (10, aB (!(decide ((a0.length : Int) = (a1.length : Int)))))] []) mixed [qn0, qn (.len a0.length), qn0, qn (.len a1.length), qn0] ⟨[0, 1, 10], [], [], [], [], [], []⟩ (aC (len_obx c_GApiNode a0) (aC (len_obx c_GApiNode a1) aN)) (by kernel_rfl) ?_
  refine W_cond (!(decide ((a0.length : Int) = (a1.length : Int)))) (by kernel_rfl) (fun hb1 => ?_) (fun hb1 => ?_)
  · have hx2 : (decide ((a0.length : Int) = (a1.length : Int))) = false := (bnot_t hb1)
    have h := if_f h hx2
    refine W_seq ?_
    refine W_y (s' := LS.mk 67 [(4, aB false)] []) mixed [qn0] ⟨[4], [], [], [], [], [], []⟩ aN (by kernel_rfl) ?_
    refine W_ret ?_
    exact kr [] _ _ (by kernel_rfl) (Option.some.inj h)
  · have hx2 : (decide ((a0.length : Int) = (a1.length : Int))) = true := (bnot_f hb1)
    have h := if_t h hx2
    refine W_skip ?_
    refine W_seq ?_
    refine W_seq ?_
    refine W_y (s' := LS.mk 67 [(0, .t (.sl 6 (a0.map c_GApiNode))), (1, .t (.sl 6 (a1.map c_GApiNode))), (12, aI .i64 (a0.length : Int)), (13, aI .i64 0)] []) mixed [qn0, qn (.len a0.length), qn0] ⟨[0, 1, 12, 13], [], [], [], [], [], []⟩ (aC (len_obx c_GApiNode a0) aN) (by kernel_rfl) ?_
    refine W_block ?_
    obtain ⟨n, h⟩ := fix_rec h
    exact W_conv (s' := LS.mk 67 [(0, .t (.sl 6 (a0.map c_GApiNode))), (1, .t (.sl 6 (a1.map c_GApiNode))), (12, aI .i64 (a0.length : Int)), (13, aI .i64 0)] []) ⟨[0, 1, 12, 13], [], [], [], [], [], []⟩ (by kernel_rfl) (hindcastref05_Same_l0_ok n a0 a1 0 r_ _ kr (fun q1 hq1  s' h hf => W_pre hf (hindcastref05_Same_j1_ok q1 r_ _ kr h)) h)
def R_hindcastref05_Equal (a0 : (List GApiNode)) (a1 : (List GApiNode)) (r : Bool) : Prop := FnP Try.prog 24 [.t (.sl 6 (a0.map c_GApiNode)), .t (.sl 6 (a1.map c_GApiNode))] (aB r)
inductive hindcastref05_Equal_C where
  | l0 (a0 : (List GApiNode)) (a1 : (List GApiNode)) (v0_13_0 : Int)
  | j1 
abbrev hindcastref05_Equal_C_T : hindcastref05_Equal_C → Type := fun _ => Bool
noncomputable def hindcastref05_Equal_l0_b (g : (i : hindcastref05_Equal_C) → Option (hindcastref05_Equal_C_T i)) (a0 : (List GApiNode)) (a1 : (List GApiNode)) (v0_13_0 : Int) : Option Bool :=
  (if v0_13_0 < (a0.length : Int) then ((getI a0 v0_13_0).bind fun (x6_2 : GApiNode) => ((getI a1 v0_13_0).bind fun (x6_6 : GApiNode) => (if (decide (x6_2.Kind = x6_6.Kind) && (decide (x6_2.Line = x6_6.Line) && (decide (x6_2.Col = x6_6.Col) && (decide (x6_2.Size = x6_6.Size) && (decide (x6_2.Num = x6_6.Num) && decide (x6_2.Text = x6_6.Text)))))) = true then g (.l0 a0 a1 (w64 (v0_13_0 + 1))) else (some false)))) else g (.j1))
noncomputable def hindcastref05_Equal_j1_b (g : (i : hindcastref05_Equal_C) → Option (hindcastref05_Equal_C_T i))  : Option Bool :=
  (some true)
noncomputable def hindcastref05_Equal_B (g : (i : hindcastref05_Equal_C) → Option (hindcastref05_Equal_C_T i)) : (i : hindcastref05_Equal_C) → Option (hindcastref05_Equal_C_T i)
  | .l0 a0 a1 v0_13_0 => hindcastref05_Equal_l0_b g a0 a1 v0_13_0
  | .j1  => hindcastref05_Equal_j1_b g 
theorem hindcastref05_Equal_B_fin (i : hindcastref05_Equal_C) : Fin1 (fun g => hindcastref05_Equal_B g i) := by
  cases i with
  | l0 a0 a1 v0_13_0 => show Fin1 (fun g => hindcastref05_Equal_l0_b g a0 a1 v0_13_0); unfold hindcastref05_Equal_l0_b; repeat (first | refine fin_bind ?_ (fun _ => ?_) | refine fin_ite ?_ ?_ | exact fin_ask _ | exact fin_const _)
  | j1  => show Fin1 (fun g => hindcastref05_Equal_j1_b g ); unfold hindcastref05_Equal_j1_b; repeat (first | refine fin_bind ?_ (fun _ => ?_) | refine fin_ite ?_ ?_ | exact fin_ask _ | exact fin_const _)
noncomputable def hindcastref05_Equal_l0 (a0 : (List GApiNode)) (a1 : (List GApiNode)) (v0_13_0 : Int) : Option Bool := fixD hindcastref05_Equal_B (.l0 a0 a1 v0_13_0)
noncomputable def hindcastref05_Equal_j1  : Option Bool := fixD hindcastref05_Equal_B (.j1 )
theorem hindcastref05_Equal_l0_eq (a0 : (List GApiNode)) (a1 : (List GApiNode)) (v0_13_0 : Int) : hindcastref05_Equal_l0 a0 a1 v0_13_0 =
  (if v0_13_0 < (a0.length : Int) then ((getI a0 v0_13_0).bind fun (x6_2 : GApiNode) => ((getI a1 v0_13_0).bind fun (x6_6 : GApiNode) => (if (decide (x6_2.Kind = x6_6.Kind) && (decide (x6_2.Line = x6_6.Line) && (decide (x6_2.Col = x6_6.Col) && (decide (x6_2.Size = x6_6.Size) && (decide (x6_2.Num = x6_6.Num) && decide (x6_2.Text = x6_6.Text)))))) = true then hindcastref05_Equal_l0 a0 a1 (w64 (v0_13_0 + 1)) else (some false)))) else hindcastref05_Equal_j1) := fix_eq hindcastref05_Equal_B_fin _
theorem hindcastref05_Equal_j1_eq  : hindcastref05_Equal_j1  =
  (some true) := fix_eq hindcastref05_Equal_B_fin _
set_option maxRecDepth 100000 in
theorem hindcastref05_Equal_l0_ok (n : Nat)  (a0 : (List GApiNode)) (a1 : (List GApiNode)) (v0_13_0 : Int) (r_ : Bool) (Q' : Exit → St → Prop) (kr : ∀ (ns : List (Nat × Nat × Nat)) (s : LS) (x : Bool), retX Try.prog ns [.tmp 4] s = some (aB x) → x = r_ → Q' .ret s.st) (k_x_0 : ∀ (q : Nat), q < n → ∀  (s' : LS), recN hindcastref05_Equal_B q (.j1 ) = some r_ → Fits s'.st (LS.mk 26 [] []).st → Q' (.exit 0) s'.st) (h : recN hindcastref05_Equal_B n (.l0 a0 a1 v0_13_0) = some r_) : W Try.prog (subC (bodyC Try.prog 24) [1, 1, 0, 1, 0]) (LS.mk 26 [(0, .t (.sl 6 (a0.map c_GApiNode))), (1, .t (.sl 6 (a1.map c_GApiNode))), (12, aI .i64 (a0.length : Int)), (13, aI .i64 v0_13_0)] []).st Q' := by
  refine W_fix (σ := Int) (fun m x_ => m ≤ n ∧ recN hindcastref05_Equal_B m (.l0 a0 a1 x_) = some r_) (fun x_ => LS.mk 26 [(0, .t (.sl 6 (a0.map c_GApiNode))), (1, .t (.sl 6 (a1.map c_GApiNode))), (12, aI .i64 (a0.length : Int)), (13, aI .i64 x_)] []) (fun x hx => by cases hx.2) (fun _ _ => rfl) ?_ n (v0_13_0) ⟨Nat.le_refl _, h⟩
  clear h
  rintro m v0_13_0 ⟨hlt, h⟩
  replace h : hindcastref05_Equal_l0_b (recN hindcastref05_Equal_B m) a0 a1 v0_13_0 = some r_ := h
  unfold hindcastref05_Equal_l0_b at h
  refine W_seq ?_
  refine W_y (s' := LS.mk 26 [(0, .t (.sl 6 (a0.map c_GApiNode))), (1, .t (.sl 6 (a1.map c_GApiNode))), (12, aI .i64 (a0.length : Int)), (13, aI .i64 v0_13_0), (14, aB (decide (v0_13_0 < (a0.length : Int))))] []) mixed [qn0] ⟨[0, 1, 12, 13, 14], [], [], [], [], [], []⟩ aN (by kernel_rfl) ?_
  refine W_seq ?_
  refine W_cond (decide (v0_13_0 < (a0.length : Int))) (by kernel_rfl) (fun hb1001 => ?_) (fun hb1001 => ?_)
  · have hx1002 := hb1001
    have h := if_t h hx1002
    refine W_skip ?_
    refine W_seq ?_
    refine W_block ?_
    refine W_seq ?_
    refine W_y (s' := LS.mk 26 [(0, .t (.sl 6 (a0.map c_GApiNode))), (1, .t (.sl 6 (a1.map c_GApiNode))), (5, aI .i64 v0_13_0), (12, aI .i64 (a0.length : Int)), (13, aI .i64 v0_13_0)] []) mixed [qn0, qn0] ⟨[0, 1, 5, 12, 13], [], [], [], [], [], []⟩ aN (by kernel_rfl) ?_
    refine W_seq ?_
    obtain ⟨x6_2, hx6_2, h⟩ := bind_ok h
    obtain ⟨x6_6, hx6_6, h⟩ := bind_ok h
    refine W_y (s' := LS.mk 26 [(0, .t (.sl 6 (a0.map c_GApiNode))), (1, .t (.sl 6 (a1.map c_GApiNode))), (12, aI .i64 (a0.length : Int)), (13, aI .i64 v0_13_0), (24, aB (!(decide (x6_2.Kind = x6_6.Kind) && (decide (x6_2.Line = x6_6.Line) && (decide (x6_2.Col = x6_6.Col) && (decide (x6_2.Size = x6_6.Size) && (decide (x6_2.Num = x6_6.Num) && decide (x6_2.Text = x6_6.Text))))))))] []) mixed [qn0, qn0, qn (.ix (Int.toNat v0_13_0) (c_GApiNode x6_2)), qn0, qn0, qn0, qn (.ix (Int.toNat v0_13_0) (c_GApiNode x6_6)), qn0, qn (.quiet (aB (!(decide (x6_2.Kind = x6_6.Kind) && (decide (x6_2.Line = x6_6.Line) && (decide (x6_2.Col = x6_6.Col) && (decide (x6_2.Size = x6_6.Size) && (decide (x6_2.Num = x6_6.Num) && decide (x6_2.Text = x6_6.Text)))))))))] ⟨[0, 1, 12, 13, 24], [], [], [], [], [], []⟩ (aC (ix_obx c_GApiNode hx6_2) (aC (ix_obx c_GApiNode hx6_6) (aC (show Quiet Try.prog (opAt (subC (bodyC Try.prog 24) [1, 1, 0, 1, 0, 0, 1, 1, 0, 0, 1, 0]) 8) [e_GApiNode x6_2, e_GApiNode x6_6] (aB (!(decide (x6_2.Kind = x6_6.Kind) && (decide (x6_2.Line = x6_6.Line) && (decide (x6_2.Col = x6_6.Col) && (decide (x6_2.Size = x6_6.Size) && (decide (x6_2.Num = x6_6.Num) && decide (x6_2.Text = x6_6.Text)))))))) from eqA_ob (P := Try.prog) (ne := true) (xs := [.int .u8 x6_2.Kind, .int .i64 x6_2.Line, .int .i64 x6_2.Col, .int .i64 x6_2.Size, .int .i64 x6_2.Num, .string (mkS x6_2.Text)]) (ys := [.int .u8 x6_6.Kind, .int .i64 x6_6.Line, .int .i64 x6_6.Col, .int .i64 x6_6.Size, .int .i64 x6_6.Num, .string (mkS x6_6.Text)]) (hh := none) ⟨_, by rfl⟩ (by kernel_rfl) (by kernel_rfl)) aN))) (by kernel_rfl) ?_
    refine W_cond (!(decide (x6_2.Kind = x6_6.Kind) && (decide (x6_2.Line = x6_6.Line) && (decide (x6_2.Col = x6_6.Col) && (decide (x6_2.Size = x6_6.Size) && (decide (x6_2.Num = x6_6.Num) && decide (x6_2.Text = x6_6.Text))))))) (by kernel_rfl) (fun hb1003 => ?_) (fun hb1003 => ?_)
    · have hx1004 : (decide (x6_2.Kind = x6_6.Kind) && (decide (x6_2.Line = x6_6.Line) && (decide (x6_2.Col = x6_6.Col) && (decide (x6_2.Size = x6_6.Size) && (decide (x6_2.Num = x6_6.Num) && decide (x6_2.Text = x6_6.Text)))))) = false := (bnot_t hb1003)
      have h := ib_f h hx1004
      refine W_seq ?_
      refine W_y (s' := LS.mk 26 [(4, aB false)] []) mixed [qn0] ⟨[4], [], [], [], [], [], []⟩ aN (by kernel_rfl) ?_
      refine W_ret ?_
      exact kr [] _ _ (by kernel_rfl) (Option.some.inj h)
    · have hx1004 : (decide (x6_2.Kind = x6_6.Kind) && (decide (x6_2.Line = x6_6.Line) && (decide (x6_2.Col = x6_6.Col) && (decide (x6_2.Size = x6_6.Size) && (decide (x6_2.Num = x6_6.Num) && decide (x6_2.Text = x6_6.Text)))))) = true := (bnot_f hb1003)
      have h := ib_t h hx1004
      refine W_skip ?_
      refine W_y (s' := LS.mk 26 [(0, .t (.sl 6 (a0.map c_GApiNode))), (1, .t (.sl 6 (a1.map c_GApiNode))), (12, aI .i64 (a0.length : Int)), (13, aI .i64 (w64 (v0_13_0 + 1)))] []) mixed [qn0, qn0] ⟨[0, 1, 12, 13], [], [], [], [], [], []⟩ aN (by kernel_rfl) ?_
      exact ⟨m, ((w64 (v0_13_0 + 1))), Nat.le_refl _, ⟨Nat.le_of_lt hlt, h⟩, convX_fits (v := ⟨[0, 1, 12, 13], [], [], [], [], [], []⟩) (s' := LS.mk 26 [(0, .t (.sl 6 (a0.map c_GApiNode))), (1, .t (.sl 6 (a1.map c_GApiNode))), (12, aI .i64 (a0.length : Int)), (13, aI .i64 (w64 (v0_13_0 + 1)))] []) (by kernel_rfl)⟩
  · have hx1002 := hb1001
    have h := if_f h hx1002
    refine W_exit ?_
    exact k_x_0 m hlt  _ h (convX_fits (v := ⟨[], [], [], [], [], [], []⟩) (s' := LS.mk 26 [] []) (by kernel_rfl))
set_option maxRecDepth 100000 in
theorem hindcastref05_Equal_j1_ok (n : Nat)   (r_ : Bool) (Q' : Exit → St → Prop) (kr : ∀ (ns : List (Nat × Nat × Nat)) (s : LS) (x : Bool), retX Try.prog ns [.tmp 4] s = some (aB x) → x = r_ → Q' .ret s.st)  (h : recN hindcastref05_Equal_B n (.j1 ) = some r_) : W Try.prog (subC (bodyC Try.prog 24) [1, 1, 1]) (LS.mk 26 [] []).st Q' := by
  cases n with
  | zero => cases h
  | succ m =>
  have hlt : m < m + 1 := Nat.lt_succ_self m
  replace h : hindcastref05_Equal_j1_b (recN hindcastref05_Equal_B m)  = some r_ := h
  unfold hindcastref05_Equal_j1_b at h
  refine W_seq ?_
  refine W_y (s' := LS.mk 26 [(4, aB true)] []) mixed [qn0] ⟨[4], [], [], [], [], [], []⟩ aN (by kernel_rfl) ?_
  refine W_ret ?_
  exact kr [] _ _ (by kernel_rfl) (Option.some.inj h)
noncomputable def hindcastref05_Equal (a0 : (List GApiNode)) (a1 : (List GApiNode)) : Option Bool :=
  (if (a0.length : Int) = (a1.length : Int) then hindcastref05_Equal_l0 a0 a1 0 else (some false))
set_option maxRecDepth 100000 in
theorem hindcastref05_Equal_ok {a0 : (List GApiNode)} {a1 : (List GApiNode)} {r_ : Bool} (h : hindcastref05_Equal a0 a1 = some r_) : R_hindcastref05_Equal a0 a1 r_ := by
  unfold hindcastref05_Equal at h
  refine fn_pureX (fn := Try.f24) (by kernel_rfl) (c := subC (bodyC Try.prog 24) []) (by kernel_rfl) (by kernel_rfl) (Nat.le_of_ble_eq_true (by kernel_rfl)) ?_
  generalize hQ' : retQ Try.prog Try.f24 (aB r_) = Q'
  have kr : ∀ (ns : List (Nat × Nat × Nat)) (s : LS) (x : Bool), retX Try.prog ns [.tmp 4] s = some (aB x) → x = r_ → Q' .ret s.st := by subst hQ'; intro ns s x hx hq; subst hq; exact ret_ok (fn := Try.f24) ns hx
  change W Try.prog _ (LS.mk 26 [(0, .t (.sl 6 (a0.map c_GApiNode))), (1, .t (.sl 6 (a1.map c_GApiNode)))] []).st Q'
  refine W_seq ?_
  refine W_y (s' := LS.mk 26 [(0, .t (.sl 6 (a0.map c_GApiNode))), (1, .t (.sl 6 (a1.map c_GApiNode)))] []) mixed [qn0] ⟨[0, 1], [], [], [], [], [], []⟩ aN (by kernel_rfl) ?_
  refine W_seq ?_
  refine W_seq ?_
  refine W_y (s' := LS.mk 26 [(0, .t (.sl 6 (a0.map c_GApiNode))), (1, .t (.sl 6 (a1.map c_GApiNode))), (10, aB (!(decide ((a0.length : Int) = (a1.length : Int)))))] []) mixed [qn0, qn (.len a0.length), qn0, qn (.len a1.length), qn0] ⟨[0, 1, 10], [], [], [], [], [], []⟩ (aC (len_obx c_GApiNode a0) (aC (len_obx c_GApiNode a1) aN)) (by kernel_rfl) ?_
  refine W_cond (!(decide ((a0.length : Int) = (a1.length : Int)))) (by kernel_rfl) (fun hb1 => ?_) (fun hb1 => ?_)
  · have hx2 : (decide ((a0.length : Int) = (a1.length : Int))) = false := (bnot_t hb1)
    have h := if_f h hx2
    refine W_seq ?_
    refine W_y (s' := LS.mk 26 [(4, aB false)] []) mixed [qn0] ⟨[4], [], [], [], [], [], []⟩ aN (by kernel_rfl) ?_
    refine W_ret ?_
    exact kr [] _ _ (by kernel_rfl) (Option.some.inj h)
  · have hx2 : (decide ((a0.length : Int) = (a1.length : Int))) = true := (bnot_f hb1)
    have h := if_t h hx2
    refine W_skip ?_
    refine W_seq ?_
    refine W_seq ?_
    refine W_y (s' := LS.mk 26 [(0, .t (.sl 6 (a0.map c_GApiNode))), (1, .t (.sl 6 (a1.map c_GApiNode))), (12, aI .i64 (a0.length : Int)), (13, aI .i64 0)] []) mixed [qn0, qn (.len a0.length), qn0] ⟨[0, 1, 12, 13], [], [], [], [], [], []⟩ (aC (len_obx c_GApiNode a0) aN) (by kernel_rfl) ?_
    refine W_block ?_
    obtain ⟨n, h⟩ := fix_rec h
    exact W_conv (s' := LS.mk 26 [(0, .t (.sl 6 (a0.map c_GApiNode))), (1, .t (.sl 6 (a1.map c_GApiNode))), (12, aI .i64 (a0.length : Int)), (13, aI .i64 0)] []) ⟨[0, 1, 12, 13], [], [], [], [], [], []⟩ (by kernel_rfl) (hindcastref05_Equal_l0_ok n a0 a1 0 r_ _ kr (fun q1 hq1  s' h hf => W_pre hf (hindcastref05_Equal_j1_ok q1 r_ _ kr h)) h)
def R_slices_Equal_api_Node (a0 : (List GApiNode)) (a1 : (List GApiNode)) (r : Bool) : Prop := FnP Try.prog 40 [.t (.sl 6 (a0.map c_GApiNode)), .t (.sl 6 (a1.map c_GApiNode))] (aB r)
inductive slices_Equal_api_Node_C where
  | l0 (a0 : (List GApiNode)) (a1 : (List GApiNode)) (v0_13_0 : Int)
  | j1 
abbrev slices_Equal_api_Node_C_T : slices_Equal_api_Node_C → Type := fun _ => Bool
noncomputable def slices_Equal_api_Node_l0_b (g : (i : slices_Equal_api_Node_C) → Option (slices_Equal_api_Node_C_T i)) (a0 : (List GApiNode)) (a1 : (List GApiNode)) (v0_13_0 : Int) : Option Bool :=
  (if v0_13_0 < (a0.length : Int) then ((getI a0 v0_13_0).bind fun (x6_2 : GApiNode) => ((getI a1 v0_13_0).bind fun (x6_6 : GApiNode) => (if (decide (x6_2.Kind = x6_6.Kind) && (decide (x6_2.Line = x6_6.Line) && (decide (x6_2.Col = x6_6.Col) && (decide (x6_2.Size = x6_6.Size) && (decide (x6_2.Num = x6_6.Num) && decide (x6_2.Text = x6_6.Text)))))) = true then g (.l0 a0 a1 (w64 (v0_13_0 + 1))) else (some false)))) else g (.j1))
noncomputable def slices_Equal_api_Node_j1_b (g : (i : slices_Equal_api_Node_C) → Option (slices_Equal_api_Node_C_T i))  : Option Bool :=
  (some true)
noncomputable def slices_Equal_api_Node_B (g : (i : slices_Equal_api_Node_C) → Option (slices_Equal_api_Node_C_T i)) : (i : slices_Equal_api_Node_C) → Option (slices_Equal_api_Node_C_T i)
  | .l0 a0 a1 v0_13_0 => slices_Equal_api_Node_l0_b g a0 a1 v0_13_0
  | .j1  => slices_Equal_api_Node_j1_b g 
theorem slices_Equal_api_Node_B_fin (i : slices_Equal_api_Node_C) : Fin1 (fun g => slices_Equal_api_Node_B g i) := by
  cases i with
  | l0 a0 a1 v0_13_0 => show Fin1 (fun g => slices_Equal_api_Node_l0_b g a0 a1 v0_13_0); unfold slices_Equal_api_Node_l0_b; repeat (first | refine fin_bind ?_ (fun _ => ?_) | refine fin_ite ?_ ?_ | exact fin_ask _ | exact fin_const _)
  | j1  => show Fin1 (fun g => slices_Equal_api_Node_j1_b g ); unfold slices_Equal_api_Node_j1_b; repeat (first | refine fin_bind ?_ (fun _ => ?_) | refine fin_ite ?_ ?_ | exact fin_ask _ | exact fin_const _)
noncomputable def slices_Equal_api_Node_l0 (a0 : (List GApiNode)) (a1 : (List GApiNode)) (v0_13_0 : Int) : Option Bool := fixD slices_Equal_api_Node_B (.l0 a0 a1 v0_13_0)
noncomputable def slices_Equal_api_Node_j1  : Option Bool := fixD slices_Equal_api_Node_B (.j1 )
theorem slices_Equal_api_Node_l0_eq (a0 : (List GApiNode)) (a1 : (List GApiNode)) (v0_13_0 : Int) : slices_Equal_api_Node_l0 a0 a1 v0_13_0 =
  (if v0_13_0 < (a0.length : Int) then ((getI a0 v0_13_0).bind fun (x6_2 : GApiNode) => ((getI a1 v0_13_0).bind fun (x6_6 : GApiNode) => (if (decide (x6_2.Kind = x6_6.Kind) && (decide (x6_2.Line = x6_6.Line) && (decide (x6_2.Col = x6_6.Col) && (decide (x6_2.Size = x6_6.Size) && (decide (x6_2.Num = x6_6.Num) && decide (x6_2.Text = x6_6.Text)))))) = true then slices_Equal_api_Node_l0 a0 a1 (w64 (v0_13_0 + 1)) else (some false)))) else slices_Equal_api_Node_j1) := fix_eq slices_Equal_api_Node_B_fin _
theorem slices_Equal_api_Node_j1_eq  : slices_Equal_api_Node_j1  =
  (some true) := fix_eq slices_Equal_api_Node_B_fin _
set_option maxRecDepth 100000 in
theorem slices_Equal_api_Node_l0_ok (n : Nat)  (a0 : (List GApiNode)) (a1 : (List GApiNode)) (v0_13_0 : Int) (r_ : Bool) (Q' : Exit → St → Prop) (kr : ∀ (ns : List (Nat × Nat × Nat)) (s : LS) (x : Bool), retX Try.prog ns [.tmp 4] s = some (aB x) → x = r_ → Q' .ret s.st) (k_x_0 : ∀ (q : Nat), q < n → ∀  (s' : LS), recN slices_Equal_api_Node_B q (.j1 ) = some r_ → Fits s'.st (LS.mk 26 [] []).st → Q' (.exit 0) s'.st) (h : recN slices_Equal_api_Node_B n (.l0 a0 a1 v0_13_0) = some r_) : W Try.prog (subC (bodyC Try.prog 40) [1, 1, 0, 1, 0]) (LS.mk 26 [(0, .t (.sl 6 (a0.map c_GApiNode))), (1, .t (.sl 6 (a1.map c_GApiNode))), (12, aI .i64 (a0.length : Int)), (13, aI .i64 v0_13_0)] []).st Q' := by
  refine W_fix (σ := Int) (fun m x_ => m ≤ n ∧ recN slices_Equal_api_Node_B m (.l0 a0 a1 x_) = some r_) (fun x_ => LS.mk 26 [(0, .t (.sl 6 (a0.map c_GApiNode))), (1, .t (.sl 6 (a1.map c_GApiNode))), (12, aI .i64 (a0.length : Int)), (13, aI .i64 x_)] []) (fun x hx => by cases hx.2) (fun _ _ => rfl) ?_ n (v0_13_0) ⟨Nat.le_refl _, h⟩
  clear h
  rintro m v0_13_0 ⟨hlt, h⟩
  replace h : slices_Equal_api_Node_l0_b (recN slices_Equal_api_Node_B m) a0 a1 v0_13_0 = some r_ := h
  unfold slices_Equal_api_Node_l0_b at h
  refine W_seq ?_
  refine W_y (s' := LS.mk 26 [(0, .t (.sl 6 (a0.map c_GApiNode))), (1, .t (.sl 6 (a1.map c_GApiNode))), (12, aI .i64 (a0.length : Int)), (13, aI .i64 v0_13_0), (14, aB (decide (v0_13_0 < (a0.length : Int))))] []) mixed [qn0] ⟨[0, 1, 12, 13, 14], [], [], [], [], [], []⟩ aN (by kernel_rfl) ?_
  refine W_seq ?_
  refine W_cond (decide (v0_13_0 < (a0.length : Int))) (by kernel_rfl) (fun hb1001 => ?_) (fun hb1001 => ?_)
  · have hx1002 := hb1001
    have h := if_t h hx1002
    refine W_skip ?_
    refine W_seq ?_
    refine W_block ?_
    refine W_seq ?_
    refine W_y (s' := LS.mk 26 [(0, .t (.sl 6 (a0.map c_GApiNode))), (1, .t (.sl 6 (a1.map c_GApiNode))), (5, aI .i64 v0_13_0), (12, aI .i64 (a0.length : Int)), (13, aI .i64 v0_13_0)] []) mixed [qn0, qn0] ⟨[0, 1, 5, 12, 13], [], [], [], [], [], []⟩ aN (by kernel_rfl) ?_
    refine W_seq ?_
    obtain ⟨x6_2, hx6_2, h⟩ := bind_ok h
    obtain ⟨x6_6, hx6_6, h⟩ := bind_ok h
    refine W_y (s' := LS.mk 26 [(0, .t (.sl 6 (a0.map c_GApiNode))), (1, .t (.sl 6 (a1.map c_GApiNode))), (12, aI .i64 (a0.length : Int)), (13, aI .i64 v0_13_0), (24, aB (!(decide (x6_2.Kind = x6_6.Kind) && (decide (x6_2.Line = x6_6.Line) && (decide (x6_2.Col = x6_6.Col) && (decide (x6_2.Size = x6_6.Size) && (decide (x6_2.Num = x6_6.Num) && decide (x6_2.Text = x6_6.Text))))))))] []) mixed [qn0, qn0, qn (.ix (Int.toNat v0_13_0) (c_GApiNode x6_2)), qn0, qn0, qn0, qn (.ix (Int.toNat v0_13_0) (c_GApiNode x6_6)), qn0, qn (.quiet (aB (!(decide (x6_2.Kind = x6_6.Kind) && (decide (x6_2.Line = x6_6.Line) && (decide (x6_2.Col = x6_6.Col) && (decide (x6_2.Size = x6_6.Size) && (decide (x6_2.Num = x6_6.Num) && decide (x6_2.Text = x6_6.Text)))))))))] ⟨[0, 1, 12, 13, 24], [], [], [], [], [], []⟩ (aC (ix_obx c_GApiNode hx6_2) (aC (ix_obx c_GApiNode hx6_6) (aC (show Quiet Try.prog (opAt (subC (bodyC Try.prog 40) [1, 1, 0, 1, 0, 0, 1, 1, 0, 0, 1, 0]) 8) [e_GApiNode x6_2, e_GApiNode x6_6] (aB (!(decide (x6_2.Kind = x6_6.Kind) && (decide (x6_2.Line = x6_6.Line) && (decide (x6_2.Col = x6_6.Col) && (decide (x6_2.Size = x6_6.Size) && (decide (x6_2.Num = x6_6.Num) && decide (x6_2.Text = x6_6.Text)))))))) from eqA_ob (P := Try.prog) (ne := true) (xs := [.int .u8 x6_2.Kind, .int .i64 x6_2.Line, .int .i64 x6_2.Col, .int .i64 x6_2.Size, .int .i64 x6_2.Num, .string (mkS x6_2.Text)]) (ys := [.int .u8 x6_6.Kind, .int .i64 x6_6.Line, .int .i64 x6_6.Col, .int .i64 x6_6.Size, .int .i64 x6_6.Num, .string (mkS x6_6.Text)]) (hh := none) ⟨_, by rfl⟩ (by kernel_rfl) (by kernel_rfl)) aN))) (by kernel_rfl) ?_
    refine W_cond (!(decide (x6_2.Kind = x6_6.Kind) && (decide (x6_2.Line = x6_6.Line) && (decide (x6_2.Col = x6_6.Col) && (decide (x6_2.Size = x6_6.Size) && (decide (x6_2.Num = x6_6.Num) && decide (x6_2.Text = x6_6.Text))))))) (by kernel_rfl) (fun hb1003 => ?_) (fun hb1003 => ?_)
    · have hx1004 : (decide (x6_2.Kind = x6_6.Kind) && (decide (x6_2.Line = x6_6.Line) && (decide (x6_2.Col = x6_6.Col) && (decide (x6_2.Size = x6_6.Size) && (decide (x6_2.Num = x6_6.Num) && decide (x6_2.Text = x6_6.Text)))))) = false := (bnot_t hb1003)
      have h := ib_f h hx1004
      refine W_seq ?_
      refine W_y (s' := LS.mk 26 [(4, aB false)] []) mixed [qn0] ⟨[4], [], [], [], [], [], []⟩ aN (by kernel_rfl) ?_
      refine W_ret ?_
      exact kr [] _ _ (by kernel_rfl) (Option.some.inj h)
    · have hx1004 : (decide (x6_2.Kind = x6_6.Kind) && (decide (x6_2.Line = x6_6.Line) && (decide (x6_2.Col = x6_6.Col) && (decide (x6_2.Size = x6_6.Size) && (decide (x6_2.Num = x6_6.Num) && decide (x6_2.Text = x6_6.Text)))))) = true := (bnot_f hb1003)
      have h := ib_t h hx1004
      refine W_skip ?_
      refine W_y (s' := LS.mk 26 [(0, .t (.sl 6 (a0.map c_GApiNode))), (1, .t (.sl 6 (a1.map c_GApiNode))), (12, aI .i64 (a0.length : Int)), (13, aI .i64 (w64 (v0_13_0 + 1)))] []) mixed [qn0, qn0] ⟨[0, 1, 12, 13], [], [], [], [], [], []⟩ aN (by kernel_rfl) ?_
      exact ⟨m, ((w64 (v0_13_0 + 1))), Nat.le_refl _, ⟨Nat.le_of_lt hlt, h⟩, convX_fits (v := ⟨[0, 1, 12, 13], [], [], [], [], [], []⟩) (s' := LS.mk 26 [(0, .t (.sl 6 (a0.map c_GApiNode))), (1, .t (.sl 6 (a1.map c_GApiNode))), (12, aI .i64 (a0.length : Int)), (13, aI .i64 (w64 (v0_13_0 + 1)))] []) (by kernel_rfl)⟩
  · have hx1002 := hb1001
    have h := if_f h hx1002
    refine W_exit ?_
    exact k_x_0 m hlt  _ h (convX_fits (v := ⟨[], [], [], [], [], [], []⟩) (s' := LS.mk 26 [] []) (by kernel_rfl))
set_option maxRecDepth 100000 in
theorem slices_Equal_api_Node_j1_ok (n : Nat)   (r_ : Bool) (Q' : Exit → St → Prop) (kr : ∀ (ns : List (Nat × Nat × Nat)) (s : LS) (x : Bool), retX Try.prog ns [.tmp 4] s = some (aB x) → x = r_ → Q' .ret s.st)  (h : recN slices_Equal_api_Node_B n (.j1 ) = some r_) : W Try.prog (subC (bodyC Try.prog 40) [1, 1, 1]) (LS.mk 26 [] []).st Q' := by
  cases n with
  | zero => cases h
  | succ m =>
  have hlt : m < m + 1 := Nat.lt_succ_self m
  replace h : slices_Equal_api_Node_j1_b (recN slices_Equal_api_Node_B m)  = some r_ := h
  unfold slices_Equal_api_Node_j1_b at h
  refine W_seq ?_
  refine W_y (s' := LS.mk 26 [(4, aB true)] []) mixed [qn0] ⟨[4], [], [], [], [], [], []⟩ aN (by kernel_rfl) ?_
  refine W_ret ?_
  exact kr [] _ _ (by kernel_rfl) (Option.some.inj h)
noncomputable def slices_Equal_api_Node (a0 : (List GApiNode)) (a1 : (List GApiNode)) : Option Bool :=
  (if (a0.length : Int) = (a1.length : Int) then slices_Equal_api_Node_l0 a0 a1 0 else (some false))
set_option maxRecDepth 100000 in
theorem slices_Equal_api_Node_ok {a0 : (List GApiNode)} {a1 : (List GApiNode)} {r_ : Bool} (h : slices_Equal_api_Node a0 a1 = some r_) : R_slices_Equal_api_Node a0 a1 r_ := by
  unfold slices_Equal_api_Node at h
  refine fn_pureX (fn := Try.f40) (by kernel_rfl) (c := subC (bodyC Try.prog 40) []) (by kernel_rfl) (by kernel_rfl) (Nat.le_of_ble_eq_true (by kernel_rfl)) ?_
  generalize hQ' : retQ Try.prog Try.f40 (aB r_) = Q'
  have kr : ∀ (ns : List (Nat × Nat × Nat)) (s : LS) (x : Bool), retX Try.prog ns [.tmp 4] s = some (aB x) → x = r_ → Q' .ret s.st := by subst hQ'; intro ns s x hx hq; subst hq; exact ret_ok (fn := Try.f40) ns hx
  change W Try.prog _ (LS.mk 26 [(0, .t (.sl 6 (a0.map c_GApiNode))), (1, .t (.sl 6 (a1.map c_GApiNode)))] []).st Q'
  refine W_seq ?_
  refine W_y (s' := LS.mk 26 [(0, .t (.sl 6 (a0.map c_GApiNode))), (1, .t (.sl 6 (a1.map c_GApiNode)))] []) mixed [qn0] ⟨[0, 1], [], [], [], [], [], []⟩ aN (by kernel_rfl) ?_
  refine W_seq ?_
  refine W_seq ?_
  refine W_y (s' := LS.mk 26 [(0, .t (.sl 6 (a0.map c_GApiNode))), (1, .t (.sl 6 (a1.map c_GApiNode))), (10, aB (!(decide ((a0.length : Int) = (a1.length : Int)))))] []) mixed [qn0, qn (.len a0.length), qn0, qn (.len a1.length), qn0] ⟨[0, 1, 10], [], [], [], [], [], []⟩ (aC (len_obx c_GApiNode a0) (aC (len_obx c_GApiNode a1) aN)) (by kernel_rfl) ?_
  refine W_cond (!(decide ((a0.length : Int) = (a1.length : Int)))) (by kernel_rfl) (fun hb1 => ?_) (fun hb1 => ?_)
  · have hx2 : (decide ((a0.length : Int) = (a1.length : Int))) = false := (bnot_t hb1)
    have h := if_f h hx2
    refine W_seq ?_
    refine W_y (s' := LS.mk 26 [(4, aB false)] []) mixed [qn0] ⟨[4], [], [], [], [], [], []⟩ aN (by kernel_rfl) ?_
    refine W_ret ?_
    exact kr [] _ _ (by kernel_rfl) (Option.some.inj h)
  · have hx2 : (decide ((a0.length : Int) = (a1.length : Int))) = true := (bnot_f hb1)
    have h := if_t h hx2
    refine W_skip ?_
    refine W_seq ?_
    refine W_seq ?_
    refine W_y (s' := LS.mk 26 [(0, .t (.sl 6 (a0.map c_GApiNode))), (1, .t (.sl 6 (a1.map c_GApiNode))), (12, aI .i64 (a0.length : Int)), (13, aI .i64 0)] []) mixed [qn0, qn (.len a0.length), qn0] ⟨[0, 1, 12, 13], [], [], [], [], [], []⟩ (aC (len_obx c_GApiNode a0) aN) (by kernel_rfl) ?_
    refine W_block ?_
    obtain ⟨n, h⟩ := fix_rec h
    exact W_conv (s' := LS.mk 26 [(0, .t (.sl 6 (a0.map c_GApiNode))), (1, .t (.sl 6 (a1.map c_GApiNode))), (12, aI .i64 (a0.length : Int)), (13, aI .i64 0)] []) ⟨[0, 1, 12, 13], [], [], [], [], [], []⟩ (by kernel_rfl) (slices_Equal_api_Node_l0_ok n a0 a1 0 r_ _ kr (fun q1 hq1  s' h hf => W_pre hf (slices_Equal_api_Node_j1_ok q1 r_ _ kr h)) h)
def R_tree_Same (a0 : (List GApiNode)) (a1 : (List GApiNode)) (r : Bool) : Prop := FnP Try.prog 25 [.t (.sl 6 (a0.map c_GApiNode)), .t (.sl 6 (a1.map c_GApiNode))] (aB r)
noncomputable def tree_Same (a0 : (List GApiNode)) (a1 : (List GApiNode)) : Option Bool :=
  ((tree_Bare a0).bind fun (r1_1 : (List GApiNode)) => ((tree_Bare a1).bind fun (r1_3 : (List GApiNode)) => ((slices_Equal_api_Node r1_1 r1_3).bind fun (r1_4 : Bool) => (some r1_4))))
set_option maxRecDepth 100000 in
theorem tree_Same_ok {a0 : (List GApiNode)} {a1 : (List GApiNode)} {r_ : Bool} (h : tree_Same a0 a1 = some r_) : R_tree_Same a0 a1 r_ := by
  unfold tree_Same at h
  refine fn_pureX (fn := Try.f25) (by kernel_rfl) (c := subC (bodyC Try.prog 25) []) (by kernel_rfl) (by kernel_rfl) (Nat.le_of_ble_eq_true (by kernel_rfl)) ?_
  generalize hQ' : retQ Try.prog Try.f25 (aB r_) = Q'
  have kr : ∀ (ns : List (Nat × Nat × Nat)) (s : LS) (x : Bool), retX Try.prog ns [.tmp 4] s = some (aB x) → x = r_ → Q' .ret s.st := by subst hQ'; intro ns s x hx hq; subst hq; exact ret_ok (fn := Try.f25) ns hx
  change W Try.prog _ (LS.mk 10 [(0, .t (.sl 6 (a0.map c_GApiNode))), (1, .t (.sl 6 (a1.map c_GApiNode)))] []).st Q'
  refine W_seq ?_
  refine W_y (s' := LS.mk 10 [(0, .t (.sl 6 (a0.map c_GApiNode))), (1, .t (.sl 6 (a1.map c_GApiNode)))] []) mixed [qn0] ⟨[0, 1], [], [], [], [], [], []⟩ aN (by kernel_rfl) ?_
  refine W_seq ?_
  obtain ⟨r1_1, hr1_1, h⟩ := bind_ok h
  have hr1_1 := tree_Bare_ok hr1_1
  obtain ⟨r1_3, hr1_3, h⟩ := bind_ok h
  have hr1_3 := tree_Bare_ok hr1_3
  obtain ⟨r1_4, hr1_4, h⟩ := bind_ok h
  have hr1_4 := slices_Equal_api_Node_ok hr1_4
  refine W_y (s' := LS.mk 10 [(4, aB r1_4)] []) mixed [qn0, qn (.io ⟨[], [], [], [], [], [], [(800000, 6)]⟩ (.ref 800000) [(800000, .row 32 6 (r1_1.map c_GApiNode))]), qn0, qn (.io ⟨[], [], [], [], [], [], [(800000, 8)]⟩ (.ref 800000) [(800000, .row 32 6 (r1_3.map c_GApiNode))]), qn (.call [] (aB r1_4)), qn0] ⟨[4], [], [], [], [], [], []⟩ (aC hr1_1 (aC hr1_3 (aC hr1_4 aN))) (by kernel_rfl) ?_
  refine W_ret ?_
  exact kr [] _ _ (by kernel_rfl) (Option.some.inj h)
def R_hindcastlaw05_TreeBare (a0 : (List GApiNode)) (a1 : (List GApiNode)) (r : Bool) : Prop := FnP Try.prog 7 [.t (.sl 6 (a0.map c_GApiNode)), .t (.sl 6 (a1.map c_GApiNode))] (aB r)
inductive hindcastlaw05_TreeBare_C where
  | j0 
  | l1 (a0 : (List GApiNode)) (a1 : (List GApiNode)) (r4_1 : (List GApiNode)) (v1_22_0 : Int)
  | j2 (a0 : (List GApiNode)) (a1 : (List GApiNode)) (r4_1 : (List GApiNode))
abbrev hindcastlaw05_TreeBare_C_T : hindcastlaw05_TreeBare_C → Type := fun _ => Bool
noncomputable def hindcastlaw05_TreeBare_j0_b (g : (i : hindcastlaw05_TreeBare_C) → Option (hindcastlaw05_TreeBare_C_T i))  : Option Bool :=
  ((hindcastlaw05_awake).bind fun (r2_0 : Bool) => (some r2_0))
noncomputable def hindcastlaw05_TreeBare_l1_b (g : (i : hindcastlaw05_TreeBare_C) → Option (hindcastlaw05_TreeBare_C_T i)) (a0 : (List GApiNode)) (a1 : (List GApiNode)) (r4_1 : (List GApiNode)) (v1_22_0 : Int) : Option Bool :=
  (if v1_22_0 < (r4_1.length : Int) then ((getI r4_1 v1_22_0).bind fun (x8_2 : GApiNode) => (if x8_2.Line = 0 then (if x8_2.Col = 0 then g (.l1 a0 a1 r4_1 (w64 (v1_22_0 + 1))) else (some false)) else (some false))) else g (.j2 a0 a1 r4_1))
noncomputable def hindcastlaw05_TreeBare_j2_b (g : (i : hindcastlaw05_TreeBare_C) → Option (hindcastlaw05_TreeBare_C_T i)) (a0 : (List GApiNode)) (a1 : (List GApiNode)) (r4_1 : (List GApiNode)) : Option Bool :=
  ((hindcastref05_Same r4_1 a0).bind fun (r11_2 : Bool) => (if r11_2 = true then ((hindcastref05_Equal (([] : List GApiNode) ++ a0) a0).bind fun (r11_6 : Bool) => (if r11_6 = true then ((tree_Same r4_1 a0).bind fun (r11_11 : Bool) => (if r11_11 = true then ((tree_Same a0 a1).bind fun (r11_16 : Bool) => ((hindcastref05_Same a0 a1).bind fun (r11_19 : Bool) => (if (r11_16 == r11_19) = true then ((hindcastlaw05_awake).bind fun (r11_23 : Bool) => (some r11_23)) else (some false)))) else (some false))) else (some false))) else (some false)))
noncomputable def hindcastlaw05_TreeBare_B (g : (i : hindcastlaw05_TreeBare_C) → Option (hindcastlaw05_TreeBare_C_T i)) : (i : hindcastlaw05_TreeBare_C) → Option (hindcastlaw05_TreeBare_C_T i)
  | .j0  => hindcastlaw05_TreeBare_j0_b g 
  | .l1 a0 a1 r4_1 v1_22_0 => hindcastlaw05_TreeBare_l1_b g a0 a1 r4_1 v1_22_0
  | .j2 a0 a1 r4_1 => hindcastlaw05_TreeBare_j2_b g a0 a1 r4_1
theorem hindcastlaw05_TreeBare_B_fin (i : hindcastlaw05_TreeBare_C) : Fin1 (fun g => hindcastlaw05_TreeBare_B g i) := by
  cases i with
  | j0  => show Fin1 (fun g => hindcastlaw05_TreeBare_j0_b g ); unfold hindcastlaw05_TreeBare_j0_b; repeat (first | refine fin_bind ?_ (fun _ => ?_) | refine fin_ite ?_ ?_ | exact fin_ask _ | exact fin_const _)
  | l1 a0 a1 r4_1 v1_22_0 => show Fin1 (fun g => hindcastlaw05_TreeBare_l1_b g a0 a1 r4_1 v1_22_0); unfold hindcastlaw05_TreeBare_l1_b; repeat (first | refine fin_bind ?_ (fun _ => ?_) | refine fin_ite ?_ ?_ | exact fin_ask _ | exact fin_const _)
  | j2 a0 a1 r4_1 => show Fin1 (fun g => hindcastlaw05_TreeBare_j2_b g a0 a1 r4_1); unfold hindcastlaw05_TreeBare_j2_b; repeat (first | refine fin_bind ?_ (fun _ => ?_) | refine fin_ite ?_ ?_ | exact fin_ask _ | exact fin_const _)
noncomputable def hindcastlaw05_TreeBare_j0  : Option Bool := fixD hindcastlaw05_TreeBare_B (.j0 )
noncomputable def hindcastlaw05_TreeBare_l1 (a0 : (List GApiNode)) (a1 : (List GApiNode)) (r4_1 : (List GApiNode)) (v1_22_0 : Int) : Option Bool := fixD hindcastlaw05_TreeBare_B (.l1 a0 a1 r4_1 v1_22_0)
noncomputable def hindcastlaw05_TreeBare_j2 (a0 : (List GApiNode)) (a1 : (List GApiNode)) (r4_1 : (List GApiNode)) : Option Bool := fixD hindcastlaw05_TreeBare_B (.j2 a0 a1 r4_1)
theorem hindcastlaw05_TreeBare_j0_eq  : hindcastlaw05_TreeBare_j0  =
  ((hindcastlaw05_awake).bind fun (r2_0 : Bool) => (some r2_0)) := fix_eq hindcastlaw05_TreeBare_B_fin _
theorem hindcastlaw05_TreeBare_l1_eq (a0 : (List GApiNode)) (a1 : (List GApiNode)) (r4_1 : (List GApiNode)) (v1_22_0 : Int) : hindcastlaw05_TreeBare_l1 a0 a1 r4_1 v1_22_0 =
  (if v1_22_0 < (r4_1.length : Int) then ((getI r4_1 v1_22_0).bind fun (x8_2 : GApiNode) => (if x8_2.Line = 0 then (if x8_2.Col = 0 then hindcastlaw05_TreeBare_l1 a0 a1 r4_1 (w64 (v1_22_0 + 1)) else (some false)) else (some false))) else hindcastlaw05_TreeBare_j2 a0 a1 r4_1) := fix_eq hindcastlaw05_TreeBare_B_fin _
theorem hindcastlaw05_TreeBare_j2_eq (a0 : (List GApiNode)) (a1 : (List GApiNode)) (r4_1 : (List GApiNode)) : hindcastlaw05_TreeBare_j2 a0 a1 r4_1 =
  ((hindcastref05_Same r4_1 a0).bind fun (r11_2 : Bool) => (if r11_2 = true then ((hindcastref05_Equal (([] : List GApiNode) ++ a0) a0).bind fun (r11_6 : Bool) => (if r11_6 = true then ((tree_Same r4_1 a0).bind fun (r11_11 : Bool) => (if r11_11 = true then ((tree_Same a0 a1).bind fun (r11_16 : Bool) => ((hindcastref05_Same a0 a1).bind fun (r11_19 : Bool) => (if (r11_16 == r11_19) = true then ((hindcastlaw05_awake).bind fun (r11_23 : Bool) => (some r11_23)) else (some false)))) else (some false))) else (some false))) else (some false))) := fix_eq hindcastlaw05_TreeBare_B_fin _
set_option maxRecDepth 100000 in
theorem hindcastlaw05_TreeBare_j0_ok (n : Nat)   (r_ : Bool) (Q' : Exit → St → Prop) (kr : ∀ (ns : List (Nat × Nat × Nat)) (s : LS) (x : Bool), retX Try.prog ns [.tmp 4] s = some (aB x) → x = r_ → Q' .ret s.st)  (h : recN hindcastlaw05_TreeBare_B n (.j0 ) = some r_) : W Try.prog (subC (bodyC Try.prog 7) [1, 0, 1, 0]) (LS.mk 65 [] []).st Q' := by
  cases n with
  | zero => cases h
  | succ m =>
  have hlt : m < m + 1 := Nat.lt_succ_self m
  replace h : hindcastlaw05_TreeBare_j0_b (recN hindcastlaw05_TreeBare_B m)  = some r_ := h
  unfold hindcastlaw05_TreeBare_j0_b at h
  refine W_seq ?_
  obtain ⟨r2_0, hr2_0, h⟩ := bind_ok h
  have hr2_0 := hindcastlaw05_awake_ok hr2_0
  refine W_y (s' := LS.mk 65 [(4, aB r2_0)] []) mixed [qn (.call [] (aB r2_0)), qn0] ⟨[4], [], [], [], [], [], []⟩ (aC hr2_0 aN) (by kernel_rfl) ?_
  refine W_ret ?_
  exact kr [] _ _ (by kernel_rfl) (Option.some.inj h)
set_option maxRecDepth 100000 in
theorem hindcastlaw05_TreeBare_l1_ok (n : Nat)  (a0 : (List GApiNode)) (a1 : (List GApiNode)) (r4_1 : (List GApiNode)) (v1_22_0 : Int) (r_ : Bool) (Q' : Exit → St → Prop) (kr : ∀ (ns : List (Nat × Nat × Nat)) (s : LS) (x : Bool), retX Try.prog ns [.tmp 4] s = some (aB x) → x = r_ → Q' .ret s.st) (k_x_0 : ∀ (q : Nat), q < n → ∀  (s' : LS), recN hindcastlaw05_TreeBare_B q (.j2 a0 a1 r4_1) = some r_ → Fits s'.st (LS.mk 65 [(0, .t (.sl 6 (a0.map c_GApiNode))), (1, .t (.sl 6 (a1.map c_GApiNode))), (5, .t (.sl 6 ((([] : List GApiNode) ++ a0).map c_GApiNode))), (6, .t (.sl 6 (r4_1.map c_GApiNode)))] []).st → Q' (.exit 0) s'.st) (h : recN hindcastlaw05_TreeBare_B n (.l1 a0 a1 r4_1 v1_22_0) = some r_) : W Try.prog (subC (bodyC Try.prog 7) [1, 1, 1, 1, 0, 1, 0]) (LS.mk 65 [(0, .t (.sl 6 (a0.map c_GApiNode))), (1, .t (.sl 6 (a1.map c_GApiNode))), (5, .t (.sl 6 ((([] : List GApiNode) ++ a0).map c_GApiNode))), (6, .t (.sl 6 (r4_1.map c_GApiNode))), (21, aI .i64 (r4_1.length : Int)), (22, aI .i64 v1_22_0)] []).st Q' := by
  refine W_fix (σ := Int) (fun m x_ => m ≤ n ∧ recN hindcastlaw05_TreeBare_B m (.l1 a0 a1 r4_1 x_) = some r_) (fun x_ => LS.mk 65 [(0, .t (.sl 6 (a0.map c_GApiNode))), (1, .t (.sl 6 (a1.map c_GApiNode))), (5, .t (.sl 6 ((([] : List GApiNode) ++ a0).map c_GApiNode))), (6, .t (.sl 6 (r4_1.map c_GApiNode))), (21, aI .i64 (r4_1.length : Int)), (22, aI .i64 x_)] []) (fun x hx => by cases hx.2) (fun _ _ => rfl) ?_ n (v1_22_0) ⟨Nat.le_refl _, h⟩
  clear h
  rintro m v1_22_0 ⟨hlt, h⟩
  replace h : hindcastlaw05_TreeBare_l1_b (recN hindcastlaw05_TreeBare_B m) a0 a1 r4_1 v1_22_0 = some r_ := h
  unfold hindcastlaw05_TreeBare_l1_b at h
  refine W_seq ?_
  refine W_y (s' := LS.mk 65 [(0, .t (.sl 6 (a0.map c_GApiNode))), (1, .t (.sl 6 (a1.map c_GApiNode))), (5, .t (.sl 6 ((([] : List GApiNode) ++ a0).map c_GApiNode))), (6, .t (.sl 6 (r4_1.map c_GApiNode))), (21, aI .i64 (r4_1.length : Int)), (22, aI .i64 v1_22_0), (23, aB (decide (v1_22_0 < (r4_1.length : Int))))] []) mixed [qn0] ⟨[0, 1, 5, 6, 21, 22, 23], [], [], [], [], [], []⟩ aN (by kernel_rfl) ?_
  refine W_seq ?_
  refine W_cond (decide (v1_22_0 < (r4_1.length : Int))) (by kernel_rfl) (fun hb2001 => ?_) (fun hb2001 => ?_)
  · have hx2002 := hb2001
    have h := if_t h hx2002
    refine W_skip ?_
    refine W_seq ?_
    refine W_block ?_
    refine W_seq ?_
    refine W_y (s' := LS.mk 65 [(0, .t (.sl 6 (a0.map c_GApiNode))), (1, .t (.sl 6 (a1.map c_GApiNode))), (5, .t (.sl 6 ((([] : List GApiNode) ++ a0).map c_GApiNode))), (6, .t (.sl 6 (r4_1.map c_GApiNode))), (7, aI .i64 v1_22_0), (21, aI .i64 (r4_1.length : Int)), (22, aI .i64 v1_22_0)] []) mixed [qn0, qn0] ⟨[0, 1, 5, 6, 7, 21, 22], [], [], [], [], [], []⟩ aN (by kernel_rfl) ?_
    refine W_seq ?_
    obtain ⟨x8_2, hx8_2, h⟩ := bind_ok h
    refine (Bool.eq_false_or_eq_true (!(decide (x8_2.Line = 0)))).elim (fun hb2003 => ?_) (fun hb2003 => ?_)
    · have hx2004 : (decide (x8_2.Line = 0)) = false := (bnot_t hb2003)
      have h := if_f h hx2004
      refine W_y (s' := LS.mk 65 [(0, .t (.sl 6 (a0.map c_GApiNode))), (1, .t (.sl 6 (a1.map c_GApiNode))), (5, .t (.sl 6 ((([] : List GApiNode) ++ a0).map c_GApiNode))), (6, .t (.sl 6 (r4_1.map c_GApiNode))), (21, aI .i64 (r4_1.length : Int)), (22, aI .i64 v1_22_0), (38, aB true)] []) mixed [qn0, qn0, qn (.ix (Int.toNat v1_22_0) (c_GApiNode x8_2)), qn0, qn0, qn0, qn0, qt0, qt0, qt0, qt0, qt0, qt0, qn (.dec true)] ⟨[0, 1, 5, 6, 21, 22, 38], [], [], [], [], [], []⟩ (aC (ix_obx c_GApiNode hx8_2) (aC (not_f hx2004) (aC (not_f hx2004) (aC (not_f hx2004) (aC (not_f hx2004) (aC (not_f hx2004) (aC (not_f hx2004) (aC (not_f hx2004) aN)))))))) (by kernel_rfl) ?_
      refine W_cond true (by kernel_rfl) (fun _ => ?_) (fun hb => nomatch ((rfl : true = true).symm.trans hb))
      refine W_seq ?_
      refine W_y (s' := LS.mk 65 [(4, aB false)] []) mixed [qn0] ⟨[4], [], [], [], [], [], []⟩ aN (by kernel_rfl) ?_
      refine W_ret ?_
      exact kr [] _ _ (by kernel_rfl) (Option.some.inj h)
    · have hx2004 : (decide (x8_2.Line = 0)) = true := (bnot_f hb2003)
      have h := if_t h hx2004
      refine W_y (s' := LS.mk 65 [(0, .t (.sl 6 (a0.map c_GApiNode))), (1, .t (.sl 6 (a1.map c_GApiNode))), (5, .t (.sl 6 ((([] : List GApiNode) ++ a0).map c_GApiNode))), (6, .t (.sl 6 (r4_1.map c_GApiNode))), (21, aI .i64 (r4_1.length : Int)), (22, aI .i64 v1_22_0), (38, aB (!(decide (x8_2.Col = 0))))] []) mixed [qn0, qn0, qn (.ix (Int.toNat v1_22_0) (c_GApiNode x8_2)), qn0, qn0, qn0, qn0, qf0, qf0, qf (.ix (Int.toNat v1_22_0) (c_GApiNode x8_2)), qf0, qf0, qf0, qn (.dec false)] ⟨[0, 1, 5, 6, 21, 22, 38], [], [], [], [], [], []⟩ (aC (ix_obx c_GApiNode hx8_2) (aC (not_t hx2004) (aC (not_t hx2004) (aC (not_t hx2004) (aC (ix_obx c_GApiNode hx8_2) (aC (not_t hx2004) (aC (not_t hx2004) (aC (not_t hx2004) (aC (not_t hx2004) aN))))))))) (by kernel_rfl) ?_
      refine W_cond (!(decide (x8_2.Col = 0))) (by kernel_rfl) (fun hb2005 => ?_) (fun hb2005 => ?_)
      · have hx2006 : (decide (x8_2.Col = 0)) = false := (bnot_t hb2005)
        have h := if_f h hx2006
        refine W_seq ?_
        refine W_y (s' := LS.mk 65 [(4, aB false)] []) mixed [qn0] ⟨[4], [], [], [], [], [], []⟩ aN (by kernel_rfl) ?_
        refine W_ret ?_
        exact kr [] _ _ (by kernel_rfl) (Option.some.inj h)
      · have hx2006 : (decide (x8_2.Col = 0)) = true := (bnot_f hb2005)
        have h := if_t h hx2006
        refine W_skip ?_
        refine W_y (s' := LS.mk 65 [(0, .t (.sl 6 (a0.map c_GApiNode))), (1, .t (.sl 6 (a1.map c_GApiNode))), (5, .t (.sl 6 ((([] : List GApiNode) ++ a0).map c_GApiNode))), (6, .t (.sl 6 (r4_1.map c_GApiNode))), (21, aI .i64 (r4_1.length : Int)), (22, aI .i64 (w64 (v1_22_0 + 1)))] []) mixed [qn0, qn0] ⟨[0, 1, 5, 6, 21, 22], [], [], [], [], [], []⟩ aN (by kernel_rfl) ?_
        exact ⟨m, ((w64 (v1_22_0 + 1))), Nat.le_refl _, ⟨Nat.le_of_lt hlt, h⟩, convX_fits (v := ⟨[0, 1, 5, 6, 21, 22], [], [], [], [], [], []⟩) (s' := LS.mk 65 [(0, .t (.sl 6 (a0.map c_GApiNode))), (1, .t (.sl 6 (a1.map c_GApiNode))), (5, .t (.sl 6 ((([] : List GApiNode) ++ a0).map c_GApiNode))), (6, .t (.sl 6 (r4_1.map c_GApiNode))), (21, aI .i64 (r4_1.length : Int)), (22, aI .i64 (w64 (v1_22_0 + 1)))] []) (by kernel_rfl)⟩
  · have hx2002 := hb2001
    have h := if_f h hx2002
    refine W_exit ?_
    exact k_x_0 m hlt  _ h (convX_fits (v := ⟨[0, 1, 5, 6], [], [], [], [], [], []⟩) (s' := LS.mk 65 [(0, .t (.sl 6 (a0.map c_GApiNode))), (1, .t (.sl 6 (a1.map c_GApiNode))), (5, .t (.sl 6 ((([] : List GApiNode) ++ a0).map c_GApiNode))), (6, .t (.sl 6 (r4_1.map c_GApiNode)))] []) (by kernel_rfl))
set_option maxRecDepth 100000 in
theorem hindcastlaw05_TreeBare_j2_ok (n : Nat)  (a0 : (List GApiNode)) (a1 : (List GApiNode)) (r4_1 : (List GApiNode)) (r_ : Bool) (Q' : Exit → St → Prop) (kr : ∀ (ns : List (Nat × Nat × Nat)) (s : LS) (x : Bool), retX Try.prog ns [.tmp 4] s = some (aB x) → x = r_ → Q' .ret s.st)  (h : recN hindcastlaw05_TreeBare_B n (.j2 a0 a1 r4_1) = some r_) : W Try.prog (subC (bodyC Try.prog 7) [1, 1, 1, 1, 1]) (LS.mk 65 [(0, .t (.sl 6 (a0.map c_GApiNode))), (1, .t (.sl 6 (a1.map c_GApiNode))), (5, .t (.sl 6 ((([] : List GApiNode) ++ a0).map c_GApiNode))), (6, .t (.sl 6 (r4_1.map c_GApiNode)))] []).st Q' := by
  cases n with
  | zero => cases h
  | succ m =>
  have hlt : m < m + 1 := Nat.lt_succ_self m
  replace h : hindcastlaw05_TreeBare_j2_b (recN hindcastlaw05_TreeBare_B m) a0 a1 r4_1 = some r_ := h
  unfold hindcastlaw05_TreeBare_j2_b at h
  refine W_seq ?_
  obtain ⟨r11_2, hr11_2, h⟩ := bind_ok h
  have hr11_2 := hindcastref05_Same_ok hr11_2
  refine (Bool.eq_false_or_eq_true r11_2).elim (fun hb3001 => ?_) (fun hb3001 => ?_)
  · have hx3002 := hb3001
    have h := ib_t h hx3002
    obtain ⟨r11_6, hr11_6, h⟩ := bind_ok h
    have hr11_6 := hindcastref05_Equal_ok hr11_6
    refine (Bool.eq_false_or_eq_true r11_6).elim (fun hb3003 => ?_) (fun hb3003 => ?_)
    · have hx3004 := hb3003
      have h := ib_t h hx3004
      obtain ⟨r11_11, hr11_11, h⟩ := bind_ok h
      have hr11_11 := tree_Same_ok hr11_11
      refine (Bool.eq_false_or_eq_true r11_11).elim (fun hb3005 => ?_) (fun hb3005 => ?_)
      · have hx3006 := hb3005
        have h := ib_t h hx3006
        obtain ⟨r11_16, hr11_16, h⟩ := bind_ok h
        have hr11_16 := tree_Same_ok hr11_16
        obtain ⟨r11_19, hr11_19, h⟩ := bind_ok h
        have hr11_19 := hindcastref05_Same_ok hr11_19
        refine (Bool.eq_false_or_eq_true (r11_16 == r11_19)).elim (fun hb3007 => ?_) (fun hb3007 => ?_)
        · have hx3008 := hb3007
          have h := ib_t h hx3008
          obtain ⟨r11_23, hr11_23, h⟩ := bind_ok h
          have hr11_23 := hindcastlaw05_awake_ok hr11_23
          refine W_y (s' := LS.mk 65 [(4, aB r11_23)] []) mixed [qn0, qn0, qn (.call [] (aB r11_2)), qn0, qt0, qt0, qt (.call [] (aB r11_6)), qn (.dec true), qn0, qt0, qt0, qt (.call [] (aB r11_11)), qn (.dec true), qn0, qt0, qt0, qt (.call [] (aB r11_16)), qt0, qt0, qt (.call [] (aB r11_19)), qt0, qn (.dec true), qn0, qt (.call [] (aB r11_23)), qn (.dec true), qn0] ⟨[4], [], [], [], [], [], []⟩ (aC hr11_2 (aC hx3002 (aC hx3002 (aC hx3002 (aC hr11_6 (aC hx3002 (aC hx3004 (aC hx3004 (aC hx3004 (aC hr11_11 (aC hx3004 (aC hx3006 (aC hx3006 (aC hx3006 (aC hr11_16 (aC hx3006 (aC hx3006 (aC hx3006 (aC hr11_19 (aC hx3006 (aC hx3006 (aC hx3008 (aC hr11_23 (aC hx3008 aN)))))))))))))))))))))))) (by kernel_rfl) ?_
          refine W_ret ?_
          exact kr [] _ _ (by kernel_rfl) (Option.some.inj h)
        · have hx3008 := hb3007
          have h := ib_f h hx3008
          refine W_y (s' := LS.mk 65 [(4, aB false)] []) mixed [qn0, qn0, qn (.call [] (aB r11_2)), qn0, qt0, qt0, qt (.call [] (aB r11_6)), qn (.dec true), qn0, qt0, qt0, qt (.call [] (aB r11_11)), qn (.dec true), qn0, qt0, qt0, qt (.call [] (aB r11_16)), qt0, qt0, qt (.call [] (aB r11_19)), qt0, qn (.dec true), qn0, qf0, qn (.dec false), qn0] ⟨[4], [], [], [], [], [], []⟩ (aC hr11_2 (aC hx3002 (aC hx3002 (aC hx3002 (aC hr11_6 (aC hx3002 (aC hx3004 (aC hx3004 (aC hx3004 (aC hr11_11 (aC hx3004 (aC hx3006 (aC hx3006 (aC hx3006 (aC hr11_16 (aC hx3006 (aC hx3006 (aC hx3006 (aC hr11_19 (aC hx3006 (aC hx3006 (aC hx3008 (aC hx3008 aN))))))))))))))))))))))) (by kernel_rfl) ?_
          refine W_ret ?_
          exact kr [] _ _ (by kernel_rfl) (Option.some.inj h)
      · have hx3006 := hb3005
        have h := ib_f h hx3006
        refine W_y (s' := LS.mk 65 [(4, aB false)] []) mixed [qn0, qn0, qn (.call [] (aB r11_2)), qn0, qt0, qt0, qt (.call [] (aB r11_6)), qn (.dec true), qn0, qt0, qt0, qt (.call [] (aB r11_11)), qn (.dec true), qn0, qf0, qf0, qf0, qf0, qf0, qf0, qf0, qn (.dec false), qn0, qn0, qn0, qn0] ⟨[4], [], [], [], [], [], []⟩ (aC hr11_2 (aC hx3002 (aC hx3002 (aC hx3002 (aC hr11_6 (aC hx3002 (aC hx3004 (aC hx3004 (aC hx3004 (aC hr11_11 (aC hx3004 (aC hx3006 (aC hx3006 (aC hx3006 (aC hx3006 (aC hx3006 (aC hx3006 (aC hx3006 (aC hx3006 aN))))))))))))))))))) (by kernel_rfl) ?_
        refine W_ret ?_
        exact kr [] _ _ (by kernel_rfl) (Option.some.inj h)
    · have hx3004 := hb3003
      have h := ib_f h hx3004
      refine W_y (s' := LS.mk 65 [(4, aB false)] []) mixed [qn0, qn0, qn (.call [] (aB r11_2)), qn0, qt0, qt0, qt (.call [] (aB r11_6)), qn (.dec true), qn0, qf0, qf0, qf0, qn (.dec false), qn0, qn0, qn0, qn0, qn0, qn0, qn0, qn0, qn0, qn0, qn0, qn0, qn0] ⟨[4], [], [], [], [], [], []⟩ (aC hr11_2 (aC hx3002 (aC hx3002 (aC hx3002 (aC hr11_6 (aC hx3002 (aC hx3004 (aC hx3004 (aC hx3004 (aC hx3004 aN)))))))))) (by kernel_rfl) ?_
      refine W_ret ?_
      exact kr [] _ _ (by kernel_rfl) (Option.some.inj h)
  · have hx3002 := hb3001
    have h := ib_f h hx3002
    refine W_y (s' := LS.mk 65 [(4, aB false)] []) mixed [qn0, qn0, qn (.call [] (aB r11_2)), qn0, qf0, qf0, qf0, qn (.dec false), qn0, qn0, qn0, qn0, qn0, qn0, qn0, qn0, qn0, qn0, qn0, qn0, qn0, qn0, qn0, qn0, qn0, qn0] ⟨[4], [], [], [], [], [], []⟩ (aC hr11_2 (aC hx3002 (aC hx3002 (aC hx3002 (aC hx3002 aN))))) (by kernel_rfl) ?_
    refine W_ret ?_
    exact kr [] _ _ (by kernel_rfl) (Option.some.inj h)
noncomputable def hindcastlaw05_TreeBare (a0 : (List GApiNode)) (a1 : (List GApiNode)) : Option Bool :=
  ((hindcastref05_Many a0).bind fun (r1_1 : Bool) => (if r1_1 = true then hindcastlaw05_TreeBare_j0 else ((hindcastref05_Many a1).bind fun (r1_4 : Bool) => (if r1_4 = true then hindcastlaw05_TreeBare_j0 else (if AppOb 56 (([] : List GApiNode).length + a0.length) then ((tree_Bare (([] : List GApiNode) ++ a0)).bind fun (r4_1 : (List GApiNode)) => hindcastlaw05_TreeBare_l1 a0 a1 r4_1 0) else none)))))
set_option maxRecDepth 100000 in
theorem hindcastlaw05_TreeBare_ok {a0 : (List GApiNode)} {a1 : (List GApiNode)} {r_ : Bool} (h : hindcastlaw05_TreeBare a0 a1 = some r_) : R_hindcastlaw05_TreeBare a0 a1 r_ := by
  unfold hindcastlaw05_TreeBare at h
  refine fn_pureX (fn := Try.f7) (by kernel_rfl) (c := subC (bodyC Try.prog 7) []) (by kernel_rfl) (by kernel_rfl) (Nat.le_of_ble_eq_true (by kernel_rfl)) ?_
  generalize hQ' : retQ Try.prog Try.f7 (aB r_) = Q'
  have kr : ∀ (ns : List (Nat × Nat × Nat)) (s : LS) (x : Bool), retX Try.prog ns [.tmp 4] s = some (aB x) → x = r_ → Q' .ret s.st := by subst hQ'; intro ns s x hx hq; subst hq; exact ret_ok (fn := Try.f7) ns hx
  change W Try.prog _ (LS.mk 65 [(0, .t (.sl 6 (a0.map c_GApiNode))), (1, .t (.sl 6 (a1.map c_GApiNode)))] []).st Q'
  refine W_seq ?_
  refine W_y (s' := LS.mk 65 [(0, .t (.sl 6 (a0.map c_GApiNode))), (1, .t (.sl 6 (a1.map c_GApiNode)))] []) mixed [qn0] ⟨[0, 1], [], [], [], [], [], []⟩ aN (by kernel_rfl) ?_
  refine W_seq ?_
  refine W_seq ?_
  obtain ⟨r1_1, hr1_1, h⟩ := bind_ok h
  have hr1_1 := hindcastref05_Many_ok hr1_1
  refine (Bool.eq_false_or_eq_true r1_1).elim (fun hb1 => ?_) (fun hb1 => ?_)
  · have hx2 := hb1
    have h := ib_t h hx2
    refine W_y (s' := LS.mk 65 [(0, .t (.sl 6 (a0.map c_GApiNode))), (1, .t (.sl 6 (a1.map c_GApiNode))), (13, aB true)] []) mixed [qn0, qn (.call [] (aB r1_1)), qn0, qt0, qt0, qn (.dec true)] ⟨[0, 1, 13], [], [], [], [], [], []⟩ (aC hr1_1 (aC hx2 (aC hx2 (aC hx2 aN)))) (by kernel_rfl) ?_
    refine W_cond true (by kernel_rfl) (fun _ => ?_) (fun hb => nomatch ((rfl : true = true).symm.trans hb))
    obtain ⟨n, h⟩ := fix_rec h
    exact W_conv (s' := LS.mk 65 [] []) ⟨[], [], [], [], [], [], []⟩ (by kernel_rfl) (hindcastlaw05_TreeBare_j0_ok n r_ _ kr h)
  · have hx2 := hb1
    have h := ib_f h hx2
    obtain ⟨r1_4, hr1_4, h⟩ := bind_ok h
    have hr1_4 := hindcastref05_Many_ok hr1_4
    refine W_y (s' := LS.mk 65 [(0, .t (.sl 6 (a0.map c_GApiNode))), (1, .t (.sl 6 (a1.map c_GApiNode))), (13, aB r1_4)] []) mixed [qn0, qn (.call [] (aB r1_1)), qn0, qf0, qf (.call [] (aB r1_4)), qn (.dec false)] ⟨[0, 1, 13], [], [], [], [], [], []⟩ (aC hr1_1 (aC hx2 (aC hx2 (aC hr1_4 (aC hx2 aN))))) (by kernel_rfl) ?_
    refine W_cond r1_4 (by kernel_rfl) (fun hb3 => ?_) (fun hb3 => ?_)
    · have hx4 := hb3
      have h := ib_t h hx4
      obtain ⟨n, h⟩ := fix_rec h
      exact W_conv (s' := LS.mk 65 [] []) ⟨[], [], [], [], [], [], []⟩ (by kernel_rfl) (hindcastlaw05_TreeBare_j0_ok n r_ _ kr h)
    · have hx4 := hb3
      have h := ib_f h hx4
      refine W_skip ?_
      refine W_seq ?_
      obtain ⟨hd5, h⟩ := ite_ok h
      refine W_y (s' := LS.mk 65 [(0, .t (.sl 6 (a0.map c_GApiNode))), (1, .t (.sl 6 (a1.map c_GApiNode))), (5, .ref 1005)] [(1005, some (.row 32 6 ((([] : List GApiNode) ++ a0).map c_GApiNode)))]) mixed [qn0, qn0, qn (.rows ((([] : List GApiNode) ++ a0).map c_GApiNode)), qn0] ⟨[0, 1, 5], [], [], [], [(17, 1005)], [], []⟩ (aC (ap_obx c_GApiNode hd5) (aC (app_obx c_GApiNode ([] : List GApiNode) a0) aN)) (by kernel_rfl) ?_
      refine W_seq ?_
      obtain ⟨r4_1, hr4_1, h⟩ := bind_ok h
      have hr4_1 := tree_Bare_okp hr4_1
      refine W_y (s' := LS.mk 65 [(0, .t (.sl 6 (a0.map c_GApiNode))), (1, .t (.sl 6 (a1.map c_GApiNode))), (5, .t (.sl 6 ((([] : List GApiNode) ++ a0).map c_GApiNode))), (6, .t (.sl 6 (r4_1.map c_GApiNode)))] []) mixed [qn0, (none, [1005], .call [] (.t (.sl 6 (r4_1.map c_GApiNode)))), qn0] ⟨[0, 1, 5, 6], [], [], [], [], [], []⟩ (aC hr4_1 aN) (by kernel_rfl) ?_
      refine W_seq ?_
      refine W_seq ?_
      refine W_y (s' := LS.mk 65 [(0, .t (.sl 6 (a0.map c_GApiNode))), (1, .t (.sl 6 (a1.map c_GApiNode))), (5, .t (.sl 6 ((([] : List GApiNode) ++ a0).map c_GApiNode))), (6, .t (.sl 6 (r4_1.map c_GApiNode))), (21, aI .i64 (r4_1.length : Int)), (22, aI .i64 0)] []) mixed [qn0, qn (.len r4_1.length), qn0] ⟨[0, 1, 5, 6, 21, 22], [], [], [], [], [], []⟩ (aC (len_obx c_GApiNode r4_1) aN) (by kernel_rfl) ?_
      refine W_block ?_
      obtain ⟨n, h⟩ := fix_rec h
      exact W_conv (s' := LS.mk 65 [(0, .t (.sl 6 (a0.map c_GApiNode))), (1, .t (.sl 6 (a1.map c_GApiNode))), (5, .t (.sl 6 ((([] : List GApiNode) ++ a0).map c_GApiNode))), (6, .t (.sl 6 (r4_1.map c_GApiNode))), (21, aI .i64 (r4_1.length : Int)), (22, aI .i64 0)] []) ⟨[0, 1, 5, 6, 21, 22], [], [], [], [], [], []⟩ (by kernel_rfl) (hindcastlaw05_TreeBare_l1_ok n a0 a1 r4_1 0 r_ _ kr (fun q1 hq1  s' h hf => W_pre hf (hindcastlaw05_TreeBare_j2_ok q1 a0 a1 r4_1 r_ _ kr h)) h)
end Go.Proofs.Ytahioekdpndohaa
