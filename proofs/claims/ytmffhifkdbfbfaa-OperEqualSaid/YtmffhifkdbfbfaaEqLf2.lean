/- Parts of the proof. -/
import Derived.Test.YtmffhifkdbfbfaaEqLf1
namespace Go.Proofs.Ytmffhifkdbfbfaa
open Go.RowKit
set_option linter.unusedVariables false
set_option maxHeartbeats 4000000
def R_hindcastref11_May (a0 : GApiObj) (r : Bool) : Prop := FnP Try.prog 69 [e_GApiObj a0] (aB r)
abbrev hindcastref11_May_e (x : Bool) : A := (aB x)
noncomputable def hindcastref11_May (a0 : GApiObj) : Option Bool :=
  (if a0.Kind = 3 then (if (a0.Text.length : Int) > 0 then (if (a0.Vals.length : Int) = 0 then (some (decide (a0.Of = 0))) else (some false)) else (some false)) else (if a0.Kind = 6 then (if a0.Text = ([] : List UInt8) then (some (decide (a0.Of ≥ 0))) else (some false)) else (if a0.Kind = 7 then (if a0.Text = ([] : List UInt8) then (some (decide (a0.Of ≥ 0))) else (some false)) else (some false))))
set_option maxRecDepth 100000 in
theorem hindcastref11_May_ok {a0 : GApiObj} {r_ : Bool} (h : hindcastref11_May a0 = some r_) : R_hindcastref11_May a0 r_ := by
 unfold hindcastref11_May at h
 refine fn_pureZ (enc := hindcastref11_May_e) (by kernel_rfl) fun Q' kr kn => ?_
 refine W_z mixed [(1, .ptr 1 0)] [] [(1, some (.box 100 [aI .u8 a0.Kind, aI .i64 a0.Of, aS a0.Text, .t (.sl 4 (a0.Vals.map c_GApiValue))]))] (cB [1] []) [q_, q_] aN (by kernel_rfl) ?_
 refine W_seq ?_
 refine W_z mixed [(5, aB (decide (a0.Kind = 3)))] [1] [k_ 1] (cB [1] []) [q_, q_, q_] aN (by kernel_rfl) ?_
 refine W_cd h (by kernel_rfl) (fun hx1 h => ?_) (fun hx1 h => ?_)
 refine if_c h (fun hx2 h => ?_) (fun hx2 h => ?_)
 refine if_c h (fun hx3 h => ?_) (fun hx3 h => ?_)
 refine W_z mixed [(2, aB (decide (a0.Of = 0)))] [] [] c0 [q_, q_, q_, q_, q_, qt0, qt0, qt (.len a0.Vals.length), qt0, qn (.dec true), q_, qt0, qt0, qt0, qn (.dec true), q_] (aC hx2 (aC hx2 (aC hx2 (aC (len_obx c_GApiValue a0.Vals) (aC hx2 (aC hx2 (aC hx3 (aC hx3 (aC hx3 (aC hx3 aN)))))))))) (by kernel_rfl) ?_
 refine W_ret ?_
 exact kr [] _ _ (by kernel_rfl) (oinj h)
 refine W_z mixed [(2, aB false)] [] [] c0 [q_, q_, q_, q_, q_, qt0, qt0, qt (.len a0.Vals.length), qt0, qn (.dec true), q_, qf0, qf0, qf0, qn (.dec false), q_] (aC hx2 (aC hx2 (aC hx2 (aC (len_obx c_GApiValue a0.Vals) (aC hx2 (aC hx2 (aC hx3 (aC hx3 (aC hx3 (aC hx3 aN)))))))))) (by kernel_rfl) ?_
 refine W_ret ?_
 exact kr [] _ _ (by kernel_rfl) (oinj h)
 refine W_z mixed [(2, aB false)] [] [] c0 (q_ :: q_ :: q_ :: q_ :: q_ :: qf0 :: qf0 :: qf0 :: qf0 :: qn (.dec false) :: (qz 6 [])) (aC hx2 (aC hx2 (aC hx2 (aC hx2 (aC hx2 aN))))) (by kernel_rfl) ?_
 refine W_ret ?_
 exact kr [] _ _ (by kernel_rfl) (oinj h)
 refine W_skip ?_
 refine if_c h (fun hx4 h => ?_) (fun hx4 h => ?_)
 refine if_c h (fun hx5 h => ?_) (fun hx5 h => ?_)
 refine W_z mixed [(2, aB (decide (a0.Of ≥ 0)))] [] [] c0 [q_, q_, q_, q_, qt0, qt0, qt0, qn (.dec true), q_, q_, q_, qn (.val (.bool (decide (a0.Text = ([] : List UInt8))))), q_, q_, qt0, qt0, qt0, qn (.dec true), q_] (aC hx4 (aC hx4 (aC hx4 (aC hx4 (aC (str_eq_ob (P := Try.prog) 9 a0.Text ([] : List UInt8)) (aC hx5 (aC hx5 (aC hx5 (aC hx5 aN))))))))) (by kernel_rfl) ?_
 refine W_ret ?_
 exact kr [] _ _ (by kernel_rfl) (oinj h)
 refine W_z mixed [(2, aB false)] [] [] c0 [q_, q_, q_, q_, qt0, qt0, qt0, qn (.dec true), q_, q_, q_, qn (.val (.bool (decide (a0.Text = ([] : List UInt8))))), q_, q_, qf0, qf0, qf0, qn (.dec false), q_] (aC hx4 (aC hx4 (aC hx4 (aC hx4 (aC (str_eq_ob (P := Try.prog) 9 a0.Text ([] : List UInt8)) (aC hx5 (aC hx5 (aC hx5 (aC hx5 aN))))))))) (by kernel_rfl) ?_
 refine W_ret ?_
 exact kr [] _ _ (by kernel_rfl) (oinj h)
 refine if_c h (fun hx6 h => ?_) (fun hx6 h => ?_)
 refine if_c h (fun hx7 h => ?_) (fun hx7 h => ?_)
 refine W_z mixed [(2, aB (decide (a0.Of ≥ 0)))] [] [] c0 [q_, q_, q_, q_, qf0, qf0, qf0, qn (.dec false), q_, qt0, qt0, qt (.val (.bool (decide (a0.Text = ([] : List UInt8))))), qn (.dec true), q_, qt0, qt0, qt0, qn (.dec true), q_] (aC hx4 (aC hx4 (aC hx4 (aC hx4 (aC hx6 (aC hx6 (aC hx6 (aC (str_eq_ob (P := Try.prog) 9 a0.Text ([] : List UInt8)) (aC hx6 (aC hx7 (aC hx7 (aC hx7 (aC hx7 aN))))))))))))) (by kernel_rfl) ?_
 refine W_ret ?_
 exact kr [] _ _ (by kernel_rfl) (oinj h)
 refine W_z mixed [(2, aB false)] [] [] c0 [q_, q_, q_, q_, qf0, qf0, qf0, qn (.dec false), q_, qt0, qt0, qt (.val (.bool (decide (a0.Text = ([] : List UInt8))))), qn (.dec true), q_, qf0, qf0, qf0, qn (.dec false), q_] (aC hx4 (aC hx4 (aC hx4 (aC hx4 (aC hx6 (aC hx6 (aC hx6 (aC (str_eq_ob (P := Try.prog) 9 a0.Text ([] : List UInt8)) (aC hx6 (aC hx7 (aC hx7 (aC hx7 (aC hx7 aN))))))))))))) (by kernel_rfl) ?_
 refine W_ret ?_
 exact kr [] _ _ (by kernel_rfl) (oinj h)
 refine W_z mixed [(2, aB false)] [] [] c0 (q_ :: q_ :: q_ :: q_ :: qf0 :: qf0 :: qf0 :: qn (.dec false) :: q_ :: qf0 :: qf0 :: qf0 :: qn (.dec false) :: (qz 6 [])) (aC hx4 (aC hx4 (aC hx4 (aC hx4 (aC hx6 (aC hx6 (aC hx6 (aC hx6 aN)))))))) (by kernel_rfl) ?_
 refine W_ret ?_
 exact kr [] _ _ (by kernel_rfl) (oinj h)
def R_hindcastref11_Cost (a0 : GApiObj) (r : Int) : Prop := FnP Try.prog 70 [e_GApiObj a0] (aI .i64 r)
abbrev hindcastref11_Cost_e (x : Int) : A := (aI .i64 x)
noncomputable def hindcastref11_Cost (a0 : GApiObj) : Option Int :=
  (if a0.Kind = 3 then (if (Int.tmod (a0.Text.length : Int) 8) > 0 then (some (w64 ((w64 ((w64 (Int.tdiv (a0.Text.length : Int) 8)) + 1)) + 1))) else (some (w64 ((w64 (Int.tdiv (a0.Text.length : Int) 8)) + 1)))) else (some (w64 ((a0.Vals.length : Int) + 1))))
set_option maxRecDepth 100000 in
theorem hindcastref11_Cost_ok {a0 : GApiObj} {r_ : Int} (h : hindcastref11_Cost a0 = some r_) : R_hindcastref11_Cost a0 r_ := by
 unfold hindcastref11_Cost at h
 refine fn_pureZ (enc := hindcastref11_Cost_e) (by kernel_rfl) fun Q' kr kn => ?_
 refine W_z mixed [(1, .ptr 1 0)] [] [(1, some (.box 100 [aI .u8 a0.Kind, aI .i64 a0.Of, aS a0.Text, .t (.sl 4 (a0.Vals.map c_GApiValue))]))] (cB [1] []) [q_, q_] aN (by kernel_rfl) ?_
 refine W_seq ?_
 refine W_z mixed [(6, aB (decide (a0.Kind = 3)))] [1] [k_ 1] (cB [1] []) [q_, q_, q_] aN (by kernel_rfl) ?_
 refine W_cd h (by kernel_rfl) (fun hx1 h => ?_) (fun hx1 h => ?_)
 refine W_z mixed [(3, aI .i64 (w64 (Int.tdiv (a0.Text.length : Int) 8)))] [1] [k_ 1] (cB [1] []) (qz 5 []) aN (by kernel_rfl) ?_
 refine W_seq ?_
 refine W_z mixed [(15, aB (decide ((Int.tmod (a0.Text.length : Int) 8) > 0)))] [3] [] c0 (qz 5 []) aN (by kernel_rfl) ?_
 refine W_cd h (by kernel_rfl) (fun hx2 h => ?_) (fun hx2 h => ?_)
 refine W_zl mixed [(3, aI .i64 (w64 ((w64 (Int.tdiv (a0.Text.length : Int) 8)) + 1)))] [] [] c0 [q_, q_, q_] aN (by kernel_rfl) ?_
 refine W_z mixed [(2, aI .i64 (w64 ((w64 ((w64 (Int.tdiv (a0.Text.length : Int) 8)) + 1)) + 1)))] [] [] c0 [q_, q_, q_] aN (by kernel_rfl) ?_
 refine W_ret ?_
 exact kr [] _ _ (by kernel_rfl) (oinj h)
 refine W_skip ?_
 refine W_z mixed [(2, aI .i64 (w64 ((w64 (Int.tdiv (a0.Text.length : Int) 8)) + 1)))] [] [] c0 [q_, q_, q_] aN (by kernel_rfl) ?_
 refine W_ret ?_
 exact kr [] _ _ (by kernel_rfl) (oinj h)
 refine W_skip ?_
 refine W_z mixed [(2, aI .i64 (w64 ((a0.Vals.length : Int) + 1)))] [] [] c0 [q_, q_, qn (.len a0.Vals.length), q_, q_] (aC (len_obx c_GApiValue a0.Vals) aN) (by kernel_rfl) ?_
 refine W_ret ?_
 exact kr [] _ _ (by kernel_rfl) (oinj h)
def RI_hindcastref11_Load (a0 : Int) (a1 : (List GApiObj)) (r : (GHindcastref11H × Int)) : Prop := FnIO Try.prog 41 [aI .i64 a0, .t (.sl 4 (a1.map c_GApiObj))] [] (.tup [.agg [aI .i64 r.1.Room, aI .i64 r.1.Cells, .ref 800002], aI .i64 r.2]) [(800002, .row 100 4 (r.1.L.map c_GApiObj))]
inductive hindcastref11_Load_C where
  | l0 (a0 : Int) (a1 : (List GApiObj)) (v0_20_0 : Int)
  | j1 (a0 : Int) (a1 : (List GApiObj))
  | l2 (a0 : Int) (a1 : (List GApiObj)) (v2_33_0 : Int) (m2_6_1 : Int)
  | j3 (a1 : (List GApiObj)) (a0 : Int) (m2_6_1 : Int)
abbrev hindcastref11_Load_C_T : hindcastref11_Load_C → Type := fun _ => (GHindcastref11H × Int)
noncomputable def hindcastref11_Load_l0_b (g : (i : hindcastref11_Load_C) → Option (hindcastref11_Load_C_T i)) (a0 : Int) (a1 : (List GApiObj)) (v0_20_0 : Int) : Option (GHindcastref11H × Int) :=
  (if v0_20_0 < (a1.length : Int) then ((getI a1 v0_20_0).bind fun (x7_2 : GApiObj) => ((hindcastref11_May x7_2).bind fun (r7_4 : Bool) => (if r7_4 = true then g (.l0 a0 a1 (w64 (v0_20_0 + 1))) else (some ((GHindcastref11H.mk 0 0 ([] : List GApiObj)), 1))))) else g (.j1 a0 a1))
noncomputable def hindcastref11_Load_j1_b (g : (i : hindcastref11_Load_C) → Option (hindcastref11_Load_C_T i)) (a0 : Int) (a1 : (List GApiObj)) : Option (GHindcastref11H × Int) :=
  g (.l2 a0 a1 0 0)
noncomputable def hindcastref11_Load_l2_b (g : (i : hindcastref11_Load_C) → Option (hindcastref11_Load_C_T i)) (a0 : Int) (a1 : (List GApiObj)) (v2_33_0 : Int) (m2_6_1 : Int) : Option (GHindcastref11H × Int) :=
  (if v2_33_0 < (a1.length : Int) then ((getI a1 v2_33_0).bind fun (x13_4 : GApiObj) => ((hindcastref11_Cost x13_4).bind fun (r13_6 : Int) => (if (w64 (m2_6_1 + r13_6)) > a0 then (some ((GHindcastref11H.mk 0 0 ([] : List GApiObj)), 21)) else g (.l2 a0 a1 (w64 (v2_33_0 + 1)) (w64 (m2_6_1 + r13_6)))))) else g (.j3 a1 a0 m2_6_1))
noncomputable def hindcastref11_Load_j3_b (g : (i : hindcastref11_Load_C) → Option (hindcastref11_Load_C_T i)) (a1 : (List GApiObj)) (a0 : Int) (m2_6_1 : Int) : Option (GHindcastref11H × Int) :=
  (if AppOb 56 a1.length then (some ((GHindcastref11H.mk a0 m2_6_1 a1), 0)) else none)
noncomputable def hindcastref11_Load_B (g : (i : hindcastref11_Load_C) → Option (hindcastref11_Load_C_T i)) : (i : hindcastref11_Load_C) → Option (hindcastref11_Load_C_T i)
  | .l0 a0 a1 v0_20_0 => hindcastref11_Load_l0_b g a0 a1 v0_20_0
  | .j1 a0 a1 => hindcastref11_Load_j1_b g a0 a1
  | .l2 a0 a1 v2_33_0 m2_6_1 => hindcastref11_Load_l2_b g a0 a1 v2_33_0 m2_6_1
  | .j3 a1 a0 m2_6_1 => hindcastref11_Load_j3_b g a1 a0 m2_6_1
theorem hindcastref11_Load_B_fin (i : hindcastref11_Load_C) : Fin1 (fun g => hindcastref11_Load_B g i) := by
 cases i
 all_goals (delta hindcastref11_Load_B; dsimp only)
 unfold hindcastref11_Load_l0_b; rotate_left
 unfold hindcastref11_Load_j1_b; rotate_left
 unfold hindcastref11_Load_l2_b; rotate_left
 unfold hindcastref11_Load_j3_b; rotate_left
 all_goals repeat (first | refine fin_bind ?_ (fun _ => ?_) | refine fin_ite ?_ ?_ | refine fin_opt ?_ (fun _ => ?_) | exact fin_ask _ | exact fin_const _)
noncomputable def hindcastref11_Load_l0 (a0 : Int) (a1 : (List GApiObj)) (v0_20_0 : Int) : Option (GHindcastref11H × Int) := fixD hindcastref11_Load_B (.l0 a0 a1 v0_20_0)
noncomputable def hindcastref11_Load_j1 (a0 : Int) (a1 : (List GApiObj)) : Option (GHindcastref11H × Int) := fixD hindcastref11_Load_B (.j1 a0 a1)
noncomputable def hindcastref11_Load_l2 (a0 : Int) (a1 : (List GApiObj)) (v2_33_0 : Int) (m2_6_1 : Int) : Option (GHindcastref11H × Int) := fixD hindcastref11_Load_B (.l2 a0 a1 v2_33_0 m2_6_1)
noncomputable def hindcastref11_Load_j3 (a1 : (List GApiObj)) (a0 : Int) (m2_6_1 : Int) : Option (GHindcastref11H × Int) := fixD hindcastref11_Load_B (.j3 a1 a0 m2_6_1)
theorem hindcastref11_Load_l0_eq (a0 : Int) (a1 : (List GApiObj)) (v0_20_0 : Int) : hindcastref11_Load_l0 a0 a1 v0_20_0 =
  (if v0_20_0 < (a1.length : Int) then ((getI a1 v0_20_0).bind fun (x7_2 : GApiObj) => ((hindcastref11_May x7_2).bind fun (r7_4 : Bool) => (if r7_4 = true then hindcastref11_Load_l0 a0 a1 (w64 (v0_20_0 + 1)) else (some ((GHindcastref11H.mk 0 0 ([] : List GApiObj)), 1))))) else hindcastref11_Load_j1 a0 a1) := fix_eq hindcastref11_Load_B_fin _
theorem hindcastref11_Load_j1_eq (a0 : Int) (a1 : (List GApiObj)) : hindcastref11_Load_j1 a0 a1 =
  hindcastref11_Load_l2 a0 a1 0 0 := fix_eq hindcastref11_Load_B_fin _
theorem hindcastref11_Load_l2_eq (a0 : Int) (a1 : (List GApiObj)) (v2_33_0 : Int) (m2_6_1 : Int) : hindcastref11_Load_l2 a0 a1 v2_33_0 m2_6_1 =
  (if v2_33_0 < (a1.length : Int) then ((getI a1 v2_33_0).bind fun (x13_4 : GApiObj) => ((hindcastref11_Cost x13_4).bind fun (r13_6 : Int) => (if (w64 (m2_6_1 + r13_6)) > a0 then (some ((GHindcastref11H.mk 0 0 ([] : List GApiObj)), 21)) else hindcastref11_Load_l2 a0 a1 (w64 (v2_33_0 + 1)) (w64 (m2_6_1 + r13_6))))) else hindcastref11_Load_j3 a1 a0 m2_6_1) := fix_eq hindcastref11_Load_B_fin _
theorem hindcastref11_Load_j3_eq (a1 : (List GApiObj)) (a0 : Int) (m2_6_1 : Int) : hindcastref11_Load_j3 a1 a0 m2_6_1 =
  (if AppOb 56 a1.length then (some ((GHindcastref11H.mk a0 m2_6_1 a1), 0)) else none) := fix_eq hindcastref11_Load_B_fin _
abbrev hindcastref11_Load_e (x : (GHindcastref11H × Int)) : A × List (Nat × Blk) := ((.tup [.agg [aI .i64 x.1.Room, aI .i64 x.1.Cells, .ref 800002], aI .i64 x.2]), [(800002, .row 100 4 (x.1.L.map c_GApiObj))])
def hindcastref11_Load_l0_s (a0 : Int) (a1 : (List GApiObj)) (v0_20_0 : Int) : LS := LS.mk 57 [(0, aI .i64 a0), (1, .t (.sl 4 (a1.map c_GApiObj))), (4, .ptr 4 0), (6, .ptr 6 0), (19, aI .i64 (a1.length : Int)), (20, aI .i64 v0_20_0)] [(4, some (.box 42 [aI .i64 0, aI .i64 0, aNil])), (6, some (.box 42 [aI .i64 a0, aI .i64 0, aNil]))]
def hindcastref11_Load_l2_s (a0 : Int) (a1 : (List GApiObj)) (v2_33_0 : Int) (m2_6_1 : Int) : LS := LS.mk 57 [(0, aI .i64 a0), (1, .t (.sl 4 (a1.map c_GApiObj))), (4, .ptr 4 0), (6, .ptr 6 0), (32, aI .i64 (a1.length : Int)), (33, aI .i64 v2_33_0)] [(4, some (.box 42 [aI .i64 0, aI .i64 0, aNil])), (6, some (.box 42 [aI .i64 a0, aI .i64 m2_6_1, aNil]))]
def hindcastref11_Load_j3_s (a1 : (List GApiObj)) (a0 : Int) (m2_6_1 : Int) : LS := LS.mk 57 [(1, .t (.sl 4 (a1.map c_GApiObj))), (4, .ptr 4 0), (6, .ptr 6 0)] [(4, some (.box 42 [aI .i64 0, aI .i64 0, aNil])), (6, some (.box 42 [aI .i64 a0, aI .i64 m2_6_1, aNil]))]
def hindcastref11_Load_j1_s (a0 : Int) (a1 : (List GApiObj)) : LS := LS.mk 57 [(0, aI .i64 a0), (1, .t (.sl 4 (a1.map c_GApiObj))), (4, .ptr 4 0), (6, .ptr 6 0)] [(4, some (.box 42 [aI .i64 0, aI .i64 0, aNil])), (6, some (.box 42 [aI .i64 a0, aI .i64 0, aNil]))]
set_option maxRecDepth 100000 in
theorem hindcastref11_Load_l0_ok (n : Nat)  (a0 : Int) (a1 : (List GApiObj)) (v0_20_0 : Int) (r_ : (GHindcastref11H × Int)) (Q' : Exit → St → Prop) (kr : KRI Try.prog 41 hindcastref11_Load_e r_ .ret Q') (k_x_0 : KX hindcastref11_Load_B n (.j1 a0 a1) r_ (hindcastref11_Load_j1_s a0 a1) (.exit 0) Q') (h : recN hindcastref11_Load_B n (.l0 a0 a1 v0_20_0) = some r_) : W Try.prog (subC (bodyC Try.prog 41) [1, 1, 1, 0, 1, 0]) (hindcastref11_Load_l0_s a0 a1 v0_20_0).st Q' := by
 refine W_fix (σ := Int) (fun m x_ => m ≤ n ∧ recN hindcastref11_Load_B m (.l0 a0 a1 x_) = some r_) (fun x_ => hindcastref11_Load_l0_s a0 a1 x_) (fun x hx => by cases hx.2) (fun _ _ => rfl) ?_ n (v0_20_0) ⟨Nat.le_refl _, h⟩
 clear h
 rintro m v0_20_0 ⟨hlt, h⟩
 replace h : hindcastref11_Load_l0_b (recN hindcastref11_Load_B m) a0 a1 v0_20_0 = some r_ := h
 unfold hindcastref11_Load_l0_b at h
 refine W_z mixed [(21, aB (decide (v0_20_0 < (a1.length : Int))))] [0, 1, 4, 6, 19, 20] [k_ 4, k_ 6] (cB [4, 6] []) [q_] aN (by kernel_rfl) ?_
 refine W_seq ?_
 refine W_cd h (by kernel_rfl) (fun hx1001 h => ?_) (fun hx1001 h => ?_)
 refine W_skip ?_
 refine W_seq ?_
 refine W_block ?_
 refine W_z mixed [(7, aI .i64 v0_20_0)] [0, 1, 4, 6, 19, 20] [k_ 4, k_ 6] (cB [4, 6] []) [q_, q_] aN (by kernel_rfl) ?_
 obtain ⟨x7_2, hx7_2, h⟩ := bind_ok h
 obtain ⟨r7_4, hr7_4, h⟩ := bind_ok h
 have hr7_4 := hindcastref11_May_ok hr7_4
 refine W_z mixed [(28, aB (!r7_4))] [0, 1, 4, 6, 19, 20] [k_ 4, k_ 6] (cB [4, 6] []) [q_, q_, qn (.ix (Int.toNat v0_20_0) (c_GApiObj x7_2)), q_, qn (.call [] (aB r7_4)), q_] (aC (ix_obx c_GApiObj hx7_2) (aC hr7_4 aN)) (by kernel_rfl) ?_
 refine W_cbn h (by kernel_rfl) (fun hx1002 h => ?_) (fun hx1002 h => ?_)
 refine W_skip ?_
 refine W_zl mixed [(20, aI .i64 (w64 (v0_20_0 + 1)))] [0, 1, 4, 6, 19] [k_ 4, k_ 6] (cB [4, 6] []) [q_, q_] aN (by kernel_rfl) ?_
 exact ⟨m, ((w64 (v0_20_0 + 1))), Nat.le_refl _, ⟨Nat.le_of_lt hlt, h⟩, convX_fits (v := (cB [4, 6] [] [0, 1, 4, 6, 19, 20])) (by kernel_rfl)⟩
 refine W_z mixed [(5, aI .i64 1)] [4] [k_ 4] (cB [4] []) [q_, q_, q_] aN (by kernel_rfl) ?_
 refine W_ret ?_
 exact kr (cG [(0, 2, .row 800002)] [] [] [] [] [(800002, 100, 4)] []) _ ((GHindcastref11H.mk 0 0 ([] : List GApiObj)), 1) (by kernel_rfl) (oinj h)
 refine W_exit ?_
 exact k_x_0 m hlt _ h (convX_fits (v := (cB [4, 6] [] [0, 1, 4, 6])) (by kernel_rfl))
set_option maxRecDepth 100000 in
theorem hindcastref11_Load_l2_ok (n : Nat)  (a0 : Int) (a1 : (List GApiObj)) (v2_33_0 : Int) (m2_6_1 : Int) (r_ : (GHindcastref11H × Int)) (Q' : Exit → St → Prop) (kr : KRI Try.prog 41 hindcastref11_Load_e r_ .ret Q') (k_x_2 : ∀ (m2_6_1 : Int), KX hindcastref11_Load_B n (.j3 a1 a0 m2_6_1) r_ (hindcastref11_Load_j3_s a1 a0 m2_6_1) (.exit 2) Q') (h : recN hindcastref11_Load_B n (.l2 a0 a1 v2_33_0 m2_6_1) = some r_) : W Try.prog (subC (bodyC Try.prog 41) [1, 1, 1, 1, 0, 1, 0]) (hindcastref11_Load_l2_s a0 a1 v2_33_0 m2_6_1).st Q' := by
 refine W_fix (σ := Int × Int) (fun m x_ => m ≤ n ∧ recN hindcastref11_Load_B m (.l2 a0 a1 x_.1 x_.2) = some r_) (fun x_ => hindcastref11_Load_l2_s a0 a1 x_.1 x_.2) (fun x hx => by cases hx.2) (fun _ _ => rfl) ?_ n (v2_33_0, m2_6_1) ⟨Nat.le_refl _, h⟩
 clear h
 rintro m ⟨v2_33_0, m2_6_1⟩ ⟨hlt, h⟩
 replace h : hindcastref11_Load_l2_b (recN hindcastref11_Load_B m) a0 a1 v2_33_0 m2_6_1 = some r_ := h
 unfold hindcastref11_Load_l2_b at h
 refine W_z mixed [(34, aB (decide (v2_33_0 < (a1.length : Int))))] [0, 1, 4, 6, 32, 33] [k_ 4, k_ 6] (cB [4, 6] []) [q_] aN (by kernel_rfl) ?_
 refine W_seq ?_
 refine W_cd h (by kernel_rfl) (fun hx3001 h => ?_) (fun hx3001 h => ?_)
 refine W_skip ?_
 refine W_seq ?_
 refine W_block ?_
 refine W_z mixed [(8, aI .i64 v2_33_0)] [0, 1, 4, 6, 32, 33] [k_ 4, k_ 6] (cB [4, 6] []) [q_, q_] aN (by kernel_rfl) ?_
 obtain ⟨x13_4, hx13_4, h⟩ := bind_ok h
 obtain ⟨r13_6, hr13_6, h⟩ := bind_ok h
 have hr13_6 := hindcastref11_Cost_ok hr13_6
 refine W_z mixed [] [0, 1, 4, 6, 32, 33] [k_ 4, (6, some (.box 42 [aI .i64 a0, aI .i64 (w64 (m2_6_1 + r13_6)), aNil]))] (cB [4, 6] []) [q_, q_, q_, q_, qn (.ix (Int.toNat v2_33_0) (c_GApiObj x13_4)), q_, qn (.call [] (aI .i64 r13_6)), q_, q_, q_] (aC (ix_obx c_GApiObj hx13_4) (aC hr13_6 aN)) (by kernel_rfl) ?_
 refine W_z mixed [(48, aB (decide ((w64 (m2_6_1 + r13_6)) > a0)))] [0, 1, 4, 6, 32, 33] [k_ 4, k_ 6] (cB [4, 6] []) (qz 4 []) aN (by kernel_rfl) ?_
 refine W_cd h (by kernel_rfl) (fun hx3002 h => ?_) (fun hx3002 h => ?_)
 refine W_z mixed [(5, aI .i64 21)] [4] [k_ 4] (cB [4] []) [q_, q_, q_] aN (by kernel_rfl) ?_
 refine W_ret ?_
 exact kr (cG [(0, 2, .row 800002)] [] [] [] [] [(800002, 100, 4)] []) _ ((GHindcastref11H.mk 0 0 ([] : List GApiObj)), 21) (by kernel_rfl) (oinj h)
 refine W_skip ?_
 refine W_zl mixed [(33, aI .i64 (w64 (v2_33_0 + 1)))] [0, 1, 4, 6, 32] [k_ 4, k_ 6] (cB [4, 6] []) [q_, q_] aN (by kernel_rfl) ?_
 exact ⟨m, ((w64 (v2_33_0 + 1)), (w64 (m2_6_1 + r13_6))), Nat.le_refl _, ⟨Nat.le_of_lt hlt, h⟩, convX_fits (v := (cB [4, 6] [] [0, 1, 4, 6, 32, 33])) (by kernel_rfl)⟩
 refine W_exit ?_
 exact k_x_2 m2_6_1 m hlt _ h (convX_fits (v := (cB [4, 6] [] [1, 4, 6])) (by kernel_rfl))
set_option maxRecDepth 100000 in
theorem hindcastref11_Load_j3_ok (n : Nat)  (a1 : (List GApiObj)) (a0 : Int) (m2_6_1 : Int) (r_ : (GHindcastref11H × Int)) (Q' : Exit → St → Prop) (kr : KRI Try.prog 41 hindcastref11_Load_e r_ .ret Q')  (h : recN hindcastref11_Load_B n (.j3 a1 a0 m2_6_1) = some r_) : W Try.prog (subC (bodyC Try.prog 41) [1, 1, 1, 1, 1]) (hindcastref11_Load_j3_s a1 a0 m2_6_1).st Q' := by
 rcases n with _ | m
 cases h
 have hlt := Nat.lt_succ_self m
 replace h : hindcastref11_Load_j3_b (recN hindcastref11_Load_B m) a1 a0 m2_6_1 = some r_ := h
 unfold hindcastref11_Load_j3_b at h
 obtain ⟨hd4001, h⟩ := ite_ok h
 refine W_z mixed [] [4, 6] [k_ 4, (6, some (.box 42 [aI .i64 a0, aI .i64 m2_6_1, .ref 100602])), (100602, some (.row 100 4 (a1.map c_GApiObj)))] (cG [] [4, 6] [] [(54, 100602)] [] []) [q_, q_, q_, qn (.rows (a1.map c_GApiObj)), q_, q_] (aC (ap0_obx c_GApiObj hd4001) (aC (row_rfl (a1.map c_GApiObj)) aN)) (by kernel_rfl) ?_
 refine W_z mixed [(5, aI .i64 0)] [4] [(4, some (.box 42 [aI .i64 a0, aI .i64 m2_6_1, .ref 100402])), (100402, some (.row 100 4 (a1.map c_GApiObj)))] (cG [] [4] [] [(100602, 100402)] [] []) [q_, q_, q_] aN (by kernel_rfl) ?_
 refine W_ret ?_
 exact kr (cG [] [] [] [(100402, 800002)] [] [] []) _ ((GHindcastref11H.mk a0 m2_6_1 a1), 0) (by kernel_rfl) (oinj h)
set_option maxRecDepth 100000 in
theorem hindcastref11_Load_j1_ok (n : Nat)  (a0 : Int) (a1 : (List GApiObj)) (r_ : (GHindcastref11H × Int)) (Q' : Exit → St → Prop) (kr : KRI Try.prog 41 hindcastref11_Load_e r_ .ret Q')  (h : recN hindcastref11_Load_B n (.j1 a0 a1) = some r_) : W Try.prog (subC (bodyC Try.prog 41) [1, 1, 1, 1]) (hindcastref11_Load_j1_s a0 a1).st Q' := by
 rcases n with _ | m
 cases h
 have hlt := Nat.lt_succ_self m
 replace h : hindcastref11_Load_j1_b (recN hindcastref11_Load_B m) a0 a1 = some r_ := h
 unfold hindcastref11_Load_j1_b at h
 refine W_seq ?_
 refine W_z mixed [(32, aI .i64 (a1.length : Int)), (33, aI .i64 0)] [0, 1, 4, 6] [k_ 4, k_ 6] (cB [4, 6] []) [q_, qn (.len a1.length), q_] (aC (len_obx c_GApiObj a1) aN) (by kernel_rfl) ?_
 refine W_block ?_
 exact W_conv (cB [4, 6] [] [0, 1, 4, 6, 32, 33]) (by kernel_rfl) (hindcastref11_Load_l2_ok m a0 a1 0 0 r_ _ kr (fun m2_6_1 q1 hq1 s' h hf => W_pre hf (hindcastref11_Load_j3_ok q1 a1 a0 m2_6_1 r_ _ kr h)) h)
noncomputable def hindcastref11_Load (a0 : Int) (a1 : (List GApiObj)) : Option (GHindcastref11H × Int) :=
  (if a0 < 0 then (some ((GHindcastref11H.mk 0 0 ([] : List GApiObj)), 1)) else (if a0 > 65536 then (some ((GHindcastref11H.mk 0 0 ([] : List GApiObj)), 1)) else hindcastref11_Load_l0 a0 a1 0))
set_option maxRecDepth 100000 in
theorem hindcastref11_Load_ok {a0 : Int} {a1 : (List GApiObj)} {r_ : (GHindcastref11H × Int)} (h : hindcastref11_Load a0 a1 = some r_) : RI_hindcastref11_Load a0 a1 r_ := by
 unfold hindcastref11_Load at h
 refine fn_ioZ (enc := hindcastref11_Load_e) (by kernel_rfl) (by kernel_rfl) fun Q' kr kn => ?_
 refine W_z mixed [(4, .ptr 4 0)] [0, 1] [(4, some (.box 42 [aI .i64 0, aI .i64 0, aNil]))] (cB [4] []) [q_, q_] aN (by kernel_rfl) ?_
 refine W_seq ?_
 refine if_c h (fun hx1 h => ?_) (fun hx1 h => ?_)
 refine W_z mixed [(14, aB true)] [0, 1, 4] [k_ 4] (cB [4] []) [q_, q_, q_, qt0, qt0, qn (.dec true)] (aC hx1 (aC hx1 (aC hx1 aN))) (by kernel_rfl) ?_
 refine W_ct (e := true) rfl (by kernel_rfl) ?_
 refine W_z mixed [(5, aI .i64 1)] [4] [k_ 4] (cB [4] []) [q_, q_, q_] aN (by kernel_rfl) ?_
 refine W_ret ?_
 exact kr (cG [(0, 2, .row 800002)] [] [] [] [] [(800002, 100, 4)] []) _ ((GHindcastref11H.mk 0 0 ([] : List GApiObj)), 1) (by kernel_rfl) (oinj h)
 refine W_z mixed [(14, aB (decide (a0 > 65536)))] [0, 1, 4] [k_ 4] (cB [4] []) [q_, q_, q_, qf0, qf0, qn (.dec false)] (aC hx1 (aC hx1 (aC hx1 aN))) (by kernel_rfl) ?_
 refine W_cd h (by kernel_rfl) (fun hx2 h => ?_) (fun hx2 h => ?_)
 refine W_z mixed [(5, aI .i64 1)] [4] [k_ 4] (cB [4] []) [q_, q_, q_] aN (by kernel_rfl) ?_
 refine W_ret ?_
 exact kr (cG [(0, 2, .row 800002)] [] [] [] [] [(800002, 100, 4)] []) _ ((GHindcastref11H.mk 0 0 ([] : List GApiObj)), 1) (by kernel_rfl) (oinj h)
 refine W_skip ?_
 refine W_z mixed [(6, .ptr 6 0)] [0, 1, 4] [k_ 4, (6, some (.box 42 [aI .i64 a0, aI .i64 0, aNil]))] (cB [4, 6] []) (qz 4 []) aN (by kernel_rfl) ?_
 refine W_seq ?_
 refine W_z mixed [(19, aI .i64 (a1.length : Int)), (20, aI .i64 0)] [0, 1, 4, 6] [k_ 4, k_ 6] (cB [4, 6] []) [q_, qn (.len a1.length), q_] (aC (len_obx c_GApiObj a1) aN) (by kernel_rfl) ?_
 refine W_block ?_
 obtain ⟨n, h⟩ := fix_rec h
 exact W_conv (cB [4, 6] [] [0, 1, 4, 6, 19, 20]) (by kernel_rfl) (hindcastref11_Load_l0_ok n a0 a1 0 r_ _ kr (fun q1 hq1 s' h hf => W_pre hf (hindcastref11_Load_j1_ok q1 a0 a1 r_ _ kr h)) h)
def R_hindcastref11_Great (a0 : (List GApiObj)) (r : Bool) : Prop := FnP Try.prog 42 [.t (.sl 4 (a0.map c_GApiObj))] (aB r)
inductive hindcastref11_Great_C where
  | l0 (a0 : (List GApiObj)) (v0_3_0 : Int) (v0_7_0 : Int)
  | j1
abbrev hindcastref11_Great_C_T : hindcastref11_Great_C → Type := fun _ => Bool
noncomputable def hindcastref11_Great_l0_b (g : (i : hindcastref11_Great_C) → Option (hindcastref11_Great_C_T i)) (a0 : (List GApiObj)) (v0_3_0 : Int) (v0_7_0 : Int) : Option Bool :=
  (if v0_7_0 < (a0.length : Int) then ((getI a0 v0_7_0).bind fun (x5_3 : GApiObj) => (if (w64 (v0_3_0 + (w64 ((w64 (1 + (if (5000 : Int) < (x5_3.Text.length : Int) then 5000 else (x5_3.Text.length : Int)))) + (if (5000 : Int) < (x5_3.Vals.length : Int) then 5000 else (x5_3.Vals.length : Int)))))) > 3000 then (some true) else g (.l0 a0 (w64 (v0_3_0 + (w64 ((w64 (1 + (if (5000 : Int) < (x5_3.Text.length : Int) then 5000 else (x5_3.Text.length : Int)))) + (if (5000 : Int) < (x5_3.Vals.length : Int) then 5000 else (x5_3.Vals.length : Int)))))) (w64 (v0_7_0 + 1))))) else g (.j1))
noncomputable def hindcastref11_Great_j1_b (g : (i : hindcastref11_Great_C) → Option (hindcastref11_Great_C_T i))  : Option Bool :=
  (some false)
noncomputable def hindcastref11_Great_B (g : (i : hindcastref11_Great_C) → Option (hindcastref11_Great_C_T i)) : (i : hindcastref11_Great_C) → Option (hindcastref11_Great_C_T i)
  | .l0 a0 v0_3_0 v0_7_0 => hindcastref11_Great_l0_b g a0 v0_3_0 v0_7_0
  | .j1  => hindcastref11_Great_j1_b g
theorem hindcastref11_Great_B_fin (i : hindcastref11_Great_C) : Fin1 (fun g => hindcastref11_Great_B g i) := by
 cases i
 all_goals (delta hindcastref11_Great_B; dsimp only)
 unfold hindcastref11_Great_l0_b; rotate_left
 unfold hindcastref11_Great_j1_b; rotate_left
 all_goals repeat (first | refine fin_bind ?_ (fun _ => ?_) | refine fin_ite ?_ ?_ | refine fin_opt ?_ (fun _ => ?_) | exact fin_ask _ | exact fin_const _)
noncomputable def hindcastref11_Great_l0 (a0 : (List GApiObj)) (v0_3_0 : Int) (v0_7_0 : Int) : Option Bool := fixD hindcastref11_Great_B (.l0 a0 v0_3_0 v0_7_0)
noncomputable def hindcastref11_Great_j1  : Option Bool := fixD hindcastref11_Great_B (.j1 )
theorem hindcastref11_Great_l0_eq (a0 : (List GApiObj)) (v0_3_0 : Int) (v0_7_0 : Int) : hindcastref11_Great_l0 a0 v0_3_0 v0_7_0 =
  (if v0_7_0 < (a0.length : Int) then ((getI a0 v0_7_0).bind fun (x5_3 : GApiObj) => (if (w64 (v0_3_0 + (w64 ((w64 (1 + (if (5000 : Int) < (x5_3.Text.length : Int) then 5000 else (x5_3.Text.length : Int)))) + (if (5000 : Int) < (x5_3.Vals.length : Int) then 5000 else (x5_3.Vals.length : Int)))))) > 3000 then (some true) else hindcastref11_Great_l0 a0 (w64 (v0_3_0 + (w64 ((w64 (1 + (if (5000 : Int) < (x5_3.Text.length : Int) then 5000 else (x5_3.Text.length : Int)))) + (if (5000 : Int) < (x5_3.Vals.length : Int) then 5000 else (x5_3.Vals.length : Int)))))) (w64 (v0_7_0 + 1)))) else hindcastref11_Great_j1) := fix_eq hindcastref11_Great_B_fin _
theorem hindcastref11_Great_j1_eq  : hindcastref11_Great_j1  =
  (some false) := fix_eq hindcastref11_Great_B_fin _
abbrev hindcastref11_Great_e (x : Bool) : A := (aB x)
def hindcastref11_Great_l0_s (a0 : (List GApiObj)) (v0_3_0 : Int) (v0_7_0 : Int) : LS := LS.mk 31 [(0, .t (.sl 4 (a0.map c_GApiObj))), (3, aI .i64 v0_3_0), (6, aI .i64 (a0.length : Int)), (7, aI .i64 v0_7_0)] []
def hindcastref11_Great_j1_s  : LS := LS.mk 31 [] []
set_option maxRecDepth 100000 in
theorem hindcastref11_Great_l0_ok (n : Nat)  (a0 : (List GApiObj)) (v0_3_0 : Int) (v0_7_0 : Int) (r_ : Bool) (Q' : Exit → St → Prop) (kr : KR Try.prog 42 hindcastref11_Great_e r_ .ret Q') (k_x_0 : KX hindcastref11_Great_B n (.j1 ) r_ (hindcastref11_Great_j1_s ) (.exit 0) Q') (h : recN hindcastref11_Great_B n (.l0 a0 v0_3_0 v0_7_0) = some r_) : W Try.prog (subC (bodyC Try.prog 42) [1, 1, 0, 1, 0]) (hindcastref11_Great_l0_s a0 v0_3_0 v0_7_0).st Q' := by
 refine W_fix (σ := Int × Int) (fun m x_ => m ≤ n ∧ recN hindcastref11_Great_B m (.l0 a0 x_.1 x_.2) = some r_) (fun x_ => hindcastref11_Great_l0_s a0 x_.1 x_.2) (fun x hx => by cases hx.2) (fun _ _ => rfl) ?_ n (v0_3_0, v0_7_0) ⟨Nat.le_refl _, h⟩
 clear h
 rintro m ⟨v0_3_0, v0_7_0⟩ ⟨hlt, h⟩
 replace h : hindcastref11_Great_l0_b (recN hindcastref11_Great_B m) a0 v0_3_0 v0_7_0 = some r_ := h
 unfold hindcastref11_Great_l0_b at h
 refine W_z mixed [(8, aB (decide (v0_7_0 < (a0.length : Int))))] [0, 3, 6, 7] [] c0 [q_] aN (by kernel_rfl) ?_
 refine W_seq ?_
 refine W_cd h (by kernel_rfl) (fun hx1001 h => ?_) (fun hx1001 h => ?_)
 refine W_skip ?_
 refine W_seq ?_
 refine W_block ?_
 refine W_z mixed [(4, aI .i64 v0_7_0)] [0, 3, 6, 7] [] c0 [q_, q_] aN (by kernel_rfl) ?_
 obtain ⟨x5_3, hx5_3, h⟩ := bind_ok h
 refine W_z mixed [(3, aI .i64 (w64 (v0_3_0 + (w64 ((w64 (1 + (if (5000 : Int) < (x5_3.Text.length : Int) then 5000 else (x5_3.Text.length : Int)))) + (if (5000 : Int) < (x5_3.Vals.length : Int) then 5000 else (x5_3.Vals.length : Int)))))))] [0, 6, 7] [] c0 [q_, q_, q_, qn (.ix (Int.toNat v0_7_0) (c_GApiObj x5_3)), q_, q_, q_, qn (.quiet (aI .i64 (if (5000 : Int) < (x5_3.Text.length : Int) then 5000 else (x5_3.Text.length : Int)))), q_, q_, q_, qn (.ix (Int.toNat v0_7_0) (c_GApiObj x5_3)), q_, q_, qn (.len x5_3.Vals.length), qn (.quiet (aI .i64 (if (5000 : Int) < (x5_3.Vals.length : Int) then 5000 else (x5_3.Vals.length : Int)))), q_, q_, q_] (aC (ix_obx c_GApiObj hx5_3) (aC (show Quiet Try.prog (opAt (subC (bodyC Try.prog 42) [1, 1, 0, 1, 0, 0, 1, 1, 0, 0, 1, 0]) 7) [aI .i64 (x5_3.Text.length : Int), aI .i64 5000] (aI .i64 (if (5000 : Int) < (x5_3.Text.length : Int) then 5000 else (x5_3.Text.length : Int))) from min_ob (by rfl) (by rfl) (by rfl)) (aC (ix_obx c_GApiObj hx5_3) (aC (len_obx c_GApiValue x5_3.Vals) (aC (show Quiet Try.prog (opAt (subC (bodyC Try.prog 42) [1, 1, 0, 1, 0, 0, 1, 1, 0, 0, 1, 0]) 15) [aI .i64 (x5_3.Vals.length : Int), aI .i64 5000] (aI .i64 (if (5000 : Int) < (x5_3.Vals.length : Int) then 5000 else (x5_3.Vals.length : Int))) from min_ob (by rfl) (by rfl) (by rfl)) aN))))) (by kernel_rfl) ?_
 refine W_z mixed [(29, aB (decide ((w64 (v0_3_0 + (w64 ((w64 (1 + (if (5000 : Int) < (x5_3.Text.length : Int) then 5000 else (x5_3.Text.length : Int)))) + (if (5000 : Int) < (x5_3.Vals.length : Int) then 5000 else (x5_3.Vals.length : Int)))))) > 3000)))] [0, 3, 6, 7] [] c0 [q_, q_] aN (by kernel_rfl) ?_
 refine W_cd h (by kernel_rfl) (fun hx1002 h => ?_) (fun hx1002 h => ?_)
 refine W_z mixed [(2, aB true)] [] [] c0 [q_] aN (by kernel_rfl) ?_
 refine W_ret ?_
 exact kr [] _ _ (by kernel_rfl) (oinj h)
 refine W_skip ?_
 refine W_zl mixed [(7, aI .i64 (w64 (v0_7_0 + 1)))] [0, 3, 6] [] c0 [q_, q_] aN (by kernel_rfl) ?_
 exact ⟨m, ((w64 (v0_3_0 + (w64 ((w64 (1 + (if (5000 : Int) < (x5_3.Text.length : Int) then 5000 else (x5_3.Text.length : Int)))) + (if (5000 : Int) < (x5_3.Vals.length : Int) then 5000 else (x5_3.Vals.length : Int)))))), (w64 (v0_7_0 + 1))), Nat.le_refl _, ⟨Nat.le_of_lt hlt, h⟩, convX_fits (v := (c0 [0, 3, 6, 7])) (by kernel_rfl)⟩
 refine W_exit ?_
 exact k_x_0 m hlt _ h (convX_fits (v := (c0 [])) (by kernel_rfl))
set_option maxRecDepth 100000 in
theorem hindcastref11_Great_j1_ok (n : Nat)   (r_ : Bool) (Q' : Exit → St → Prop) (kr : KR Try.prog 42 hindcastref11_Great_e r_ .ret Q')  (h : recN hindcastref11_Great_B n (.j1 ) = some r_) : W Try.prog (subC (bodyC Try.prog 42) [1, 1, 1]) (hindcastref11_Great_j1_s ).st Q' := by
 rcases n with _ | m
 cases h
 have hlt := Nat.lt_succ_self m
 replace h : hindcastref11_Great_j1_b (recN hindcastref11_Great_B m)  = some r_ := h
 unfold hindcastref11_Great_j1_b at h
 refine W_z mixed [(2, aB false)] [] [] c0 [q_] aN (by kernel_rfl) ?_
 refine W_ret ?_
 exact kr [] _ _ (by kernel_rfl) (oinj h)
noncomputable def hindcastref11_Great (a0 : (List GApiObj)) : Option Bool :=
  hindcastref11_Great_l0 a0 0 0
set_option maxRecDepth 100000 in
theorem hindcastref11_Great_ok {a0 : (List GApiObj)} {r_ : Bool} (h : hindcastref11_Great a0 = some r_) : R_hindcastref11_Great a0 r_ := by
 unfold hindcastref11_Great at h
 refine fn_pureZ (enc := hindcastref11_Great_e) (by kernel_rfl) fun Q' kr kn => ?_
 refine W_z mixed [] [0] [] c0 [q_] aN (by kernel_rfl) ?_
 refine W_z mixed [(3, aI .i64 0)] [0] [] c0 [q_] aN (by kernel_rfl) ?_
 refine W_seq ?_
 refine W_z mixed [(6, aI .i64 (a0.length : Int)), (7, aI .i64 0)] [0, 3] [] c0 [q_, qn (.len a0.length), q_] (aC (len_obx c_GApiObj a0) aN) (by kernel_rfl) ?_
 refine W_block ?_
 obtain ⟨n, h⟩ := fix_rec h
 exact W_conv (c0 [0, 3, 6, 7]) (by kernel_rfl) (hindcastref11_Great_l0_ok n a0 0 0 r_ _ kr (fun q1 hq1 s' h hf => W_pre hf (hindcastref11_Great_j1_ok q1 r_ _ kr h)) h)
def RI_hindcastlaw13_loaded (a0 : Int) (a1 : (List GApiObj)) (r : ((Option GHeapHeap) × GHindcastref13W × Bool)) : Prop := FnIO Try.prog 16 [aI .i64 a0, .t (.sl 4 (a1.map c_GApiObj))] [] (optCase r.1 (.tup [aPnil, .agg [aI .i64 r.2.1.H.Room, aI .i64 r.2.1.H.Cells, .ref 800102, .t (.sl 1 (r.2.1.In.map c_i64)), .t (.sl 1 (r.2.1.Draws.map c_i64)), aI .i64 r.2.1.Read, aI .i64 r.2.1.Drawn], aB r.2.2]) fun y => .tup [.ob 700000, .agg [aI .i64 r.2.1.H.Room, aI .i64 r.2.1.H.Cells, .ref 800102, .t (.sl 1 (r.2.1.In.map c_i64)), .t (.sl 1 (r.2.1.Draws.map c_i64)), aI .i64 r.2.1.Read, aI .i64 r.2.1.Drawn], aB r.2.2]) (optCase r.1 [(800102, .row 100 4 (r.2.1.H.L.map c_GApiObj))] fun y => [(700000, .obj (.any (rep_GHeapHeap y))), (800102, .row 100 4 (r.2.1.H.L.map c_GApiObj))])
abbrev hindcastlaw13_loaded_e (x : ((Option GHeapHeap) × GHindcastref13W × Bool)) : A × List (Nat × Blk) := ((optCase x.1 (.tup [aPnil, .agg [aI .i64 x.2.1.H.Room, aI .i64 x.2.1.H.Cells, .ref 800102, .t (.sl 1 (x.2.1.In.map c_i64)), .t (.sl 1 (x.2.1.Draws.map c_i64)), aI .i64 x.2.1.Read, aI .i64 x.2.1.Drawn], aB x.2.2]) fun y => .tup [.ob 700000, .agg [aI .i64 x.2.1.H.Room, aI .i64 x.2.1.H.Cells, .ref 800102, .t (.sl 1 (x.2.1.In.map c_i64)), .t (.sl 1 (x.2.1.Draws.map c_i64)), aI .i64 x.2.1.Read, aI .i64 x.2.1.Drawn], aB x.2.2]), (optCase x.1 [(800102, .row 100 4 (x.2.1.H.L.map c_GApiObj))] fun y => [(700000, .obj (.any (rep_GHeapHeap y))), (800102, .row 100 4 (x.2.1.H.L.map c_GApiObj))]))
noncomputable def hindcastlaw13_loaded (a0 : Int) (a1 : (List GApiObj)) : Option ((Option GHeapHeap) × GHindcastref13W × Bool) :=
  ((hindcastref11_Load a0 a1).bind fun (r1_2 : (GHindcastref11H × Int)) => (if r1_2.2 = 0 then ((hindcastref11_Great a1).bind fun (r2_4 : Bool) => (if r2_4 = true then (some ((none : Option GHeapHeap), (GHindcastref13W.mk (GHindcastref11H.mk 0 0 ([] : List GApiObj)) ([] : List Int) ([] : List Int) 0 0), false)) else ((xheap_Load a0 a1).bind fun (r4_2 : ((Option GHeapHeap) × Int)) => optCase r4_2.1 (some ((none : Option GHeapHeap), (GHindcastref13W.mk r1_2.1 ([] : List Int) ([] : List Int) 0 0), false)) fun (y4_2 : GHeapHeap) => (some ((some y4_2), (GHindcastref13W.mk r1_2.1 ([] : List Int) ([] : List Int) 0 0), true))))) else (some ((none : Option GHeapHeap), (GHindcastref13W.mk (GHindcastref11H.mk 0 0 ([] : List GApiObj)) ([] : List Int) ([] : List Int) 0 0), false))))
set_option maxRecDepth 100000 in
theorem hindcastlaw13_loaded_ok {a0 : Int} {a1 : (List GApiObj)} {r_ : ((Option GHeapHeap) × GHindcastref13W × Bool)} (h : hindcastlaw13_loaded a0 a1 = some r_) : RI_hindcastlaw13_loaded a0 a1 r_ := by
 unfold hindcastlaw13_loaded at h
 refine fn_ioZ (enc := hindcastlaw13_loaded_e) (by kernel_rfl) (by kernel_rfl) fun Q' kr kn => ?_
 refine W_z mixed [(5, .ptr 5 0)] [0, 1] [(5, some (.box 44 [aI .i64 0, aI .i64 0, aNil, aNil, aNil, aI .i64 0, aI .i64 0]))] (cB [5] []) [q_, q_, q_] aN (by kernel_rfl) ?_
 obtain ⟨r1_2, hr1_2, h⟩ := bind_ok h
 have hr1_2 := hindcastref11_Load_ok hr1_2
 refine W_z mixed [(7, .ptr 7 0), (8, aI .i64 r1_2.2)] [0, 1, 5] [k_ 5, (7, some (.box 42 [aI .i64 r1_2.1.Room, aI .i64 r1_2.1.Cells, .ref 100702])), (100702, some (.row 100 4 (r1_2.1.L.map c_GApiObj)))] (cG [] [5, 7] [] [(14, 100702)] [] []) (q_ :: q_ :: qn (.io ⟨[], [], [], [], [], [], [(800002, 14)]⟩ (.tup [.agg [aI .i64 r1_2.1.Room, aI .i64 r1_2.1.Cells, .ref 800002], aI .i64 r1_2.2]) [(800002, .row 100 4 (r1_2.1.L.map c_GApiObj))]) :: (qz 6 [])) (aC hr1_2 aN) (by kernel_rfl) ?_
 refine W_seq ?_
 refine if_c h (fun hx1 h => ?_) (fun hx1 h => ?_)
 obtain ⟨r2_4, hr2_4, h⟩ := bind_ok h
 have hr2_4 := hindcastref11_Great_ok hr2_4
 refine W_z mixed [(22, aB r2_4)] [0, 1, 5, 7] [k_ 5, k_ 7, k_ 100702] (cB [5, 7] [100702]) [q_, q_, q_, qf0, qf (.call [] (aB r2_4)), qn (.dec false)] (aC (not_t hx1) (aC (not_t hx1) (aC hr2_4 (aC (not_t hx1) aN)))) (by kernel_rfl) ?_
 refine W_cb h (by kernel_rfl) (fun hx2 h => ?_) (fun hx2 h => ?_)
 refine W_z mixed [(4, aPnil), (6, aB false)] [5] [k_ 5] (cB [5] []) (qz 4 []) aN (by kernel_rfl) ?_
 refine W_ret ?_
 exact kr (cG [(1, 2, .row 800102), (1, 3, .sl 1), (1, 4, .sl 1)] [] [] [] [] [(800102, 100, 4)] []) _ ((none : Option GHeapHeap), (GHindcastref13W.mk (GHindcastref11H.mk 0 0 ([] : List GApiObj)) ([] : List Int) ([] : List Int) 0 0), false) (by kernel_rfl) (oinj h)
 refine W_skip ?_
 obtain ⟨r4_2, hr4_2, h⟩ := bind_ok h
 have hr4_2 := xheap_Load_ok hr4_2
 unfold RI_heap_Load at hr4_2
 rcases hc_y4_2 : r4_2.1 with _ | y4_2
 rw [hc_y4_2] at hr4_2
 have h := oc_nx hc_y4_2 h
 refine W_z mixed [(9, aPnil)] [5, 7] [k_ 5, k_ 7, k_ 100702] (cB [5, 7] [100702]) [q_, q_, qn (.io ⟨[], [], [], [], [], [], []⟩ (.tup [aPnil, aI .i64 r4_2.2]) []), q_, q_, q_, q_, q_] (aC hr4_2 aN) (by kernel_rfl) ?_
 refine W_z mixed [(4, aPnil), (6, aB false)] [5] [(5, some (.box 44 [aI .i64 r1_2.1.Room, aI .i64 r1_2.1.Cells, .ref 100502, aNil, aNil, aI .i64 0, aI .i64 0])), (100502, some (.row 100 4 (r1_2.1.L.map c_GApiObj)))] (cG [] [5] [] [(100702, 100502)] [] []) (qz 8 []) aN (by kernel_rfl) ?_
 refine W_ret ?_
 exact kr (cG [(1, 3, .sl 1), (1, 4, .sl 1)] [] [] [(100502, 800102)] [] [] []) _ ((none : Option GHeapHeap), (GHindcastref13W.mk r1_2.1 ([] : List Int) ([] : List Int) 0 0), false) (by kernel_rfl) (oinj h)
 rw [hc_y4_2] at hr4_2
 have h := oc_sx hc_y4_2 h
 refine W_z mixed [(9, .ob 1009)] [5, 7] [k_ 5, k_ 7, (1009, some (.obj (.any (rep_GHeapHeap y4_2)))), k_ 100702] (cG [] [5, 7] [] [(27, 1009), (100702, 100702)] [] []) [q_, q_, qn (.io ⟨[], [], [], [], [], [], [(700000, 27)]⟩ (.tup [.ob 700000, aI .i64 r4_2.2]) [(700000, .obj (.any (rep_GHeapHeap y4_2)))]), q_, q_, q_, q_, q_] (aC hr4_2 aN) (by kernel_rfl) ?_
 refine W_z mixed [(4, .ob 1004), (6, aB true)] [5] [(5, some (.box 44 [aI .i64 r1_2.1.Room, aI .i64 r1_2.1.Cells, .ref 100502, aNil, aNil, aI .i64 0, aI .i64 0])), (1004, some (.obj (.any (rep_GHeapHeap y4_2)))), (100502, some (.row 100 4 (r1_2.1.L.map c_GApiObj)))] (cG [] [5] [] [(1009, 1004), (100702, 100502)] [] []) (qz 8 []) aN (by kernel_rfl) ?_
 refine W_ret ?_
 exact kr (cG [(1, 3, .sl 1), (1, 4, .sl 1)] [] [] [(1004, 700000), (100502, 800102)] [] [] []) _ ((some y4_2), (GHindcastref13W.mk r1_2.1 ([] : List Int) ([] : List Int) 0 0), true) (by kernel_rfl) (oinj h)
 refine W_z mixed [(22, aB true)] [0, 1, 5, 7] [k_ 5, k_ 7, k_ 100702] (cB [5, 7] [100702]) [q_, q_, q_, qt0, qt0, qn (.dec true)] (aC (not_f hx1) (aC (not_f hx1) (aC (not_f hx1) aN))) (by kernel_rfl) ?_
 refine W_ct (e := true) rfl (by kernel_rfl) ?_
 refine W_z mixed [(4, aPnil), (6, aB false)] [5] [k_ 5] (cB [5] []) (qz 4 []) aN (by kernel_rfl) ?_
 refine W_ret ?_
 exact kr (cG [(1, 2, .row 800102), (1, 3, .sl 1), (1, 4, .sl 1)] [] [] [] [] [(800102, 100, 4)] []) _ ((none : Option GHeapHeap), (GHindcastref13W.mk (GHindcastref11H.mk 0 0 ([] : List GApiObj)) ([] : List Int) ([] : List Int) 0 0), false) (by kernel_rfl) (oinj h)
def R_hindcastref11_H_Names (a0 : GHindcastref11H) (a1 : GApiValue) (r : Bool) : Prop := FnP Try.prog 86 [e_GHindcastref11H a0, e_GApiValue a1] (aB r)
abbrev hindcastref11_H_Names_e (x : Bool) : A := (aB x)
noncomputable def hindcastref11_H_Names (a0 : GHindcastref11H) (a1 : GApiValue) : Option Bool :=
  (if a1.N ≥ 1 then (if a1.N ≤ (a0.L.length : Int) then ((getI a0.L (w64 (a1.N - 1))).bind fun (x1_17 : GApiObj) => (some (decide (x1_17.Kind = a1.Kind)))) else (some false)) else (some false))
set_option maxRecDepth 100000 in
theorem hindcastref11_H_Names_ok {a0 : GHindcastref11H} {a1 : GApiValue} {r_ : Bool} (h : hindcastref11_H_Names a0 a1 = some r_) : R_hindcastref11_H_Names a0 a1 r_ := by
 unfold hindcastref11_H_Names at h
 refine fn_pureZ (enc := hindcastref11_H_Names_e) (by kernel_rfl) fun Q' kr kn => ?_
 refine W_z mixed [(2, .ptr 2 0), (3, .ptr 3 0)] [] [(2, some (.box 42 [aI .i64 a0.Room, aI .i64 a0.Cells, .t (.sl 4 (a0.L.map c_GApiObj))])), (3, some (.box 23 [aI .u8 a1.Kind, aI .i64 a1.N, aI .i64 a1.Re, aI .i64 a1.Im]))] (cB [2, 3] []) [q_, q_, q_] aN (by kernel_rfl) ?_
 refine if_c h (fun hx1 h => ?_) (fun hx1 h => ?_)
 refine if_c h (fun hx2 h => ?_) (fun hx2 h => ?_)
 obtain ⟨x1_17, hx1_17, h⟩ := bind_ok h
 refine W_z mixed [(4, aB (decide (x1_17.Kind = a1.Kind)))] [] [] c0 [q_, q_, q_, q_, qt0, qt0, qt0, qt0, qt (.len a0.L.length), qt0, qn (.dec true), q_, qt0, qt0, qt0, qt0, qt0, qt (.ix (Int.toNat (w64 (a1.N - 1))) (c_GApiObj x1_17)), qt0, qt0, qt0, qt0, qt0, qn (.dec true), q_] (aC hx1 (aC hx1 (aC hx1 (aC hx1 (aC hx1 (aC (len_obx c_GApiObj a0.L) (aC hx1 (aC hx1 (aC hx2 (aC hx2 (aC hx2 (aC hx2 (aC hx2 (aC hx2 (aC (ix_obx c_GApiObj hx1_17) (aC hx2 (aC hx2 (aC hx2 (aC hx2 (aC hx2 (aC hx2 aN))))))))))))))))))))) (by kernel_rfl) ?_
 refine W_ret ?_
 exact kr [] _ _ (by kernel_rfl) (oinj h)
 refine W_z mixed [(4, aB false)] [] [] c0 [q_, q_, q_, q_, qt0, qt0, qt0, qt0, qt (.len a0.L.length), qt0, qn (.dec true), q_, qf0, qf0, qf0, qf0, qf0, qf0, qf0, qf0, qf0, qf0, qf0, qn (.dec false), q_] (aC hx1 (aC hx1 (aC hx1 (aC hx1 (aC hx1 (aC (len_obx c_GApiObj a0.L) (aC hx1 (aC hx1 (aC hx2 (aC hx2 (aC hx2 (aC hx2 (aC hx2 (aC hx2 (aC hx2 (aC hx2 (aC hx2 (aC hx2 (aC hx2 (aC hx2 aN)))))))))))))))))))) (by kernel_rfl) ?_
 refine W_ret ?_
 exact kr [] _ _ (by kernel_rfl) (oinj h)
 refine W_z mixed [(4, aB false)] [] [] c0 (q_ :: q_ :: q_ :: q_ :: qf0 :: qf0 :: qf0 :: qf0 :: qf0 :: qf0 :: qn (.dec false) :: (qz 14 [])) (aC hx1 (aC hx1 (aC hx1 (aC hx1 (aC hx1 (aC hx1 (aC hx1 aN))))))) (by kernel_rfl) ?_
 refine W_ret ?_
 exact kr [] _ _ (by kernel_rfl) (oinj h)
def R_hindcastref11_H_Text (a0 : GHindcastref11H) (a1 : GApiValue) (r : ((List UInt8) × Bool)) : Prop := FnP Try.prog 53 [e_GHindcastref11H a0, e_GApiValue a1] (.tup [aS r.1, aB r.2])
abbrev hindcastref11_H_Text_e (x : ((List UInt8) × Bool)) : A := (.tup [aS x.1, aB x.2])
noncomputable def hindcastref11_H_Text (a0 : GHindcastref11H) (a1 : GApiValue) : Option ((List UInt8) × Bool) :=
  (if a1.Kind = 3 then (if a1.N = 0 then (some (([] : List UInt8), true)) else ((hindcastref11_H_Names a0 a1).bind fun (r5_2 : Bool) => (if r5_2 = true then ((getI a0.L (w64 (a1.N - 1))).bind fun (x7_5 : GApiObj) => (some (x7_5.Text, true))) else (some (([] : List UInt8), false))))) else (some (([] : List UInt8), false)))
set_option maxRecDepth 100000 in
theorem hindcastref11_H_Text_ok {a0 : GHindcastref11H} {a1 : GApiValue} {r_ : ((List UInt8) × Bool)} (h : hindcastref11_H_Text a0 a1 = some r_) : R_hindcastref11_H_Text a0 a1 r_ := by
 unfold hindcastref11_H_Text at h
 refine fn_pureZ (enc := hindcastref11_H_Text_e) (by kernel_rfl) fun Q' kr kn => ?_
 refine W_z mixed [(2, .ptr 2 0), (3, .ptr 3 0)] [] [(2, some (.box 42 [aI .i64 a0.Room, aI .i64 a0.Cells, .t (.sl 4 (a0.L.map c_GApiObj))])), (3, some (.box 23 [aI .u8 a1.Kind, aI .i64 a1.N, aI .i64 a1.Re, aI .i64 a1.Im]))] (cB [2, 3] []) (qz 4 []) aN (by kernel_rfl) ?_
 refine W_seq ?_
 refine W_z mixed [(8, aB (!(decide (a1.Kind = 3))))] [2, 3] [k_ 2, k_ 3] (cB [2, 3] []) [q_, q_, q_] aN (by kernel_rfl) ?_
 refine W_cdn h (by kernel_rfl) (fun hx1 h => ?_) (fun hx1 h => ?_)
 refine W_skip ?_
 refine W_seq ?_
 refine W_z mixed [(11, aB (decide (a1.N = 0)))] [2, 3] [k_ 2, k_ 3] (cB [2, 3] []) [q_, q_, q_] aN (by kernel_rfl) ?_
 refine W_cd h (by kernel_rfl) (fun hx2 h => ?_) (fun hx2 h => ?_)
 refine W_z mixed [(4, aS ([] : List UInt8)), (5, aB true)] [] [] c0 [q_, q_] aN (by kernel_rfl) ?_
 refine W_ret ?_
 exact kr [] _ _ (by kernel_rfl) (oinj h)
 refine W_skip ?_
 refine W_seq ?_
 obtain ⟨r5_2, hr5_2, h⟩ := bind_ok h
 have hr5_2 := hindcastref11_H_Names_ok hr5_2
 refine W_z mixed [(15, aB (!r5_2))] [2, 3] [k_ 2, k_ 3] (cB [2, 3] []) [q_, q_, qn (.call [] (aB r5_2)), q_] (aC hr5_2 aN) (by kernel_rfl) ?_
 refine W_cbn h (by kernel_rfl) (fun hx3 h => ?_) (fun hx3 h => ?_)
 refine W_skip ?_
 obtain ⟨x7_5, hx7_5, h⟩ := bind_ok h
 refine W_z mixed [(4, aS x7_5.Text), (5, aB true)] [] [] c0 [q_, q_, q_, q_, q_, qn (.ix (Int.toNat (w64 (a1.N - 1))) (c_GApiObj x7_5)), q_, q_, q_, q_] (aC (ix_obx c_GApiObj hx7_5) aN) (by kernel_rfl) ?_
 refine W_ret ?_
 exact kr [] _ _ (by kernel_rfl) (oinj h)
 refine W_z mixed [(4, aS ([] : List UInt8)), (5, aB false)] [] [] c0 [q_, q_] aN (by kernel_rfl) ?_
 refine W_ret ?_
 exact kr [] _ _ (by kernel_rfl) (oinj h)
 refine W_z mixed [(4, aS ([] : List UInt8)), (5, aB false)] [] [] c0 [q_, q_] aN (by kernel_rfl) ?_
 refine W_ret ?_
 exact kr [] _ _ (by kernel_rfl) (oinj h)
def R_hindcastref13_W_equal (a0 : GHindcastref13W) (a1 : GApiValue) (a2 : GApiValue) (r : (Bool × Bool)) : Prop := FnP Try.prog 49 [e_GHindcastref13W a0, e_GApiValue a1, e_GApiValue a2] (.tup [aB r.1, aB r.2])
abbrev hindcastref13_W_equal_e (x : (Bool × Bool)) : A := (.tup [aB x.1, aB x.2])
noncomputable def hindcastref13_W_equal_j0 (a0 : GHindcastref13W) (a1 : GApiValue) (a2 : GApiValue) : Option (Bool × Bool) :=
  (if a1.Kind = a2.Kind then (if a1.Kind = 1 then (some (true, (decide (a1.N = a2.N)))) else (if a1.Kind = 2 then (some (true, ((decide (a1.N = 0)) == (decide (a2.N = 0))))) else (if a1.Kind = 3 then ((hindcastref11_H_Text a0.H a1).bind fun (r13_3 : ((List UInt8) × Bool)) => ((hindcastref11_H_Text a0.H a2).bind fun (r14_3 : ((List UInt8) × Bool)) => (if r13_3.2 = true then (if r14_3.2 = true then (some (r14_3.2, (decide (r13_3.1 = r14_3.1)))) else (some (r14_3.2, false))) else (some (false, false))))) else (if a1.Kind = 4 then ((hindcastref13_comp a1).bind fun (r17_1 : GApiComp) => ((hindcastref13_comp a2).bind fun (r17_3 : GApiComp) => (some (true, (decide (r17_1.Re = r17_3.Re) && decide (r17_1.Im = r17_3.Im)))))) else (some (false, false)))))) else (some (false, false)))
noncomputable def hindcastref13_W_equal_j1 (v1_8_0 : Bool) (v1_9_0 : Bool) (a0 : GHindcastref13W) (a1 : GApiValue) (a2 : GApiValue) : Option (Bool × Bool) :=
  (if v1_8_0 = true then (if v1_9_0 = true then (if a1.Kind = a2.Kind then (if a1.Kind = 5 then (some (true, true)) else (some (true, (decide (a1.N = a2.N))))) else (some (true, false))) else hindcastref13_W_equal_j0 a0 a1 a2) else hindcastref13_W_equal_j0 a0 a1 a2)
noncomputable def hindcastref13_W_equal_j2 (v2_8_0 : Bool) (a0 : GHindcastref13W) (a1 : GApiValue) (a2 : GApiValue) : Option (Bool × Bool) :=
  (if a2.Kind ≥ 5 then hindcastref13_W_equal_j1 v2_8_0 (decide (a2.Kind ≤ 7)) a0 a1 a2 else hindcastref13_W_equal_j1 v2_8_0 false a0 a1 a2)
def hindcastref13_W_equal_j0_s (a0 : GHindcastref13W) (a1 : GApiValue) (a2 : GApiValue) : LS := LS.mk 110 [(3, .ptr 3 0), (4, .ptr 4 0), (5, .ptr 5 0)] [(3, some (.box 44 [aI .i64 a0.H.Room, aI .i64 a0.H.Cells, .t (.sl 4 (a0.H.L.map c_GApiObj)), .t (.sl 1 (a0.In.map c_i64)), .t (.sl 1 (a0.Draws.map c_i64)), aI .i64 a0.Read, aI .i64 a0.Drawn])), (4, some (.box 23 [aI .u8 a1.Kind, aI .i64 a1.N, aI .i64 a1.Re, aI .i64 a1.Im])), (5, some (.box 23 [aI .u8 a2.Kind, aI .i64 a2.N, aI .i64 a2.Re, aI .i64 a2.Im]))]
def hindcastref13_W_equal_j1_s (v1_8_0 : Bool) (v1_9_0 : Bool) (a0 : GHindcastref13W) (a1 : GApiValue) (a2 : GApiValue) : LS := LS.mk 110 [(3, .ptr 3 0), (4, .ptr 4 0), (5, .ptr 5 0), (8, aB v1_8_0), (9, aB v1_9_0)] [(3, some (.box 44 [aI .i64 a0.H.Room, aI .i64 a0.H.Cells, .t (.sl 4 (a0.H.L.map c_GApiObj)), .t (.sl 1 (a0.In.map c_i64)), .t (.sl 1 (a0.Draws.map c_i64)), aI .i64 a0.Read, aI .i64 a0.Drawn])), (4, some (.box 23 [aI .u8 a1.Kind, aI .i64 a1.N, aI .i64 a1.Re, aI .i64 a1.Im])), (5, some (.box 23 [aI .u8 a2.Kind, aI .i64 a2.N, aI .i64 a2.Re, aI .i64 a2.Im]))]
def hindcastref13_W_equal_j2_s (v2_8_0 : Bool) (a0 : GHindcastref13W) (a1 : GApiValue) (a2 : GApiValue) : LS := LS.mk 110 [(3, .ptr 3 0), (4, .ptr 4 0), (5, .ptr 5 0), (8, aB v2_8_0)] [(3, some (.box 44 [aI .i64 a0.H.Room, aI .i64 a0.H.Cells, .t (.sl 4 (a0.H.L.map c_GApiObj)), .t (.sl 1 (a0.In.map c_i64)), .t (.sl 1 (a0.Draws.map c_i64)), aI .i64 a0.Read, aI .i64 a0.Drawn])), (4, some (.box 23 [aI .u8 a1.Kind, aI .i64 a1.N, aI .i64 a1.Re, aI .i64 a1.Im])), (5, some (.box 23 [aI .u8 a2.Kind, aI .i64 a2.N, aI .i64 a2.Re, aI .i64 a2.Im]))]
set_option maxRecDepth 100000 in
theorem hindcastref13_W_equal_j0_ok (a0 : GHindcastref13W) (a1 : GApiValue) (a2 : GApiValue) (r_ : (Bool × Bool)) (Q' : Exit → St → Prop) (kr : KR Try.prog 49 hindcastref13_W_equal_e r_ .ret Q')  (h : hindcastref13_W_equal_j0 a0 a1 a2 = some r_) : W Try.prog (subC (bodyC Try.prog 49) [1, 1, 1, 1]) (hindcastref13_W_equal_j0_s a0 a1 a2).st Q' := by
 unfold hindcastref13_W_equal_j0 at h
 refine W_seq ?_
 refine W_z mixed [(55, aB (!(decide (a1.Kind = a2.Kind))))] [3, 4, 5] [k_ 3, k_ 4, k_ 5] (cB [3, 4, 5] []) (qz 5 []) aN (by kernel_rfl) ?_
 refine W_cdn h (by kernel_rfl) (fun hx1001 h => ?_) (fun hx1001 h => ?_)
 refine W_skip ?_
 refine W_seq ?_
 refine W_z mixed [(57, aI .u8 a1.Kind)] [3, 4, 5] [k_ 3, k_ 4, k_ 5] (cB [3, 4, 5] []) [q_, q_] aN (by kernel_rfl) ?_
 refine W_block ?_
 refine W_z mixed [(58, aB (decide (a1.Kind = 1)))] [3, 4, 5, 57] [k_ 3, k_ 4, k_ 5] (cB [3, 4, 5] []) [q_, q_] aN (by kernel_rfl) ?_
 refine W_cd h (by kernel_rfl) (fun hx1002 h => ?_) (fun hx1002 h => ?_)
 refine W_z mixed [(6, aB true), (7, aB (decide (a1.N = a2.N)))] [] [] c0 (qz 7 []) aN (by kernel_rfl) ?_
 refine W_ret ?_
 exact kr [] _ _ (by kernel_rfl) (oinj h)
 refine W_z mixed [(65, aB (decide (a1.Kind = 2)))] [3, 4, 5, 57] [k_ 3, k_ 4, k_ 5] (cB [3, 4, 5] []) [q_, q_] aN (by kernel_rfl) ?_
 refine W_cd h (by kernel_rfl) (fun hx1003 h => ?_) (fun hx1003 h => ?_)
 refine W_z mixed [(6, aB true), (7, aB ((decide (a1.N = 0)) == (decide (a2.N = 0))))] [] [] c0 (qz 9 []) aN (by kernel_rfl) ?_
 refine W_ret ?_
 exact kr [] _ _ (by kernel_rfl) (oinj h)
 refine W_z mixed [(74, aB (decide (a1.Kind = 3)))] [3, 4, 5, 57] [k_ 3, k_ 4, k_ 5] (cB [3, 4, 5] []) [q_, q_] aN (by kernel_rfl) ?_
 refine W_cd h (by kernel_rfl) (fun hx1004 h => ?_) (fun hx1004 h => ?_)
 obtain ⟨r13_3, hr13_3, h⟩ := bind_ok h
 have hr13_3 := hindcastref11_H_Text_ok hr13_3
 refine W_z mixed [(10, aS r13_3.1), (11, aB r13_3.2)] [3, 5] [k_ 3, k_ 5] (cB [3, 5] []) [q_, q_, q_, qn (.call [] (.tup [aS r13_3.1, aB r13_3.2])), q_, q_, q_, q_, q_] (aC hr13_3 aN) (by kernel_rfl) ?_
 obtain ⟨r14_3, hr14_3, h⟩ := bind_ok h
 have hr14_3 := hindcastref11_H_Text_ok hr14_3
 refine W_z mixed [(12, aS r14_3.1), (13, aB r14_3.2)] [10, 11] [] c0 [q_, q_, q_, qn (.call [] (.tup [aS r14_3.1, aB r14_3.2])), q_, q_, q_, q_, q_] (aC hr14_3 aN) (by kernel_rfl) ?_
 refine ib_c h (fun hx1005 h => ?_) (fun hx1005 h => ?_)
 refine ib_c h (fun hx1006 h => ?_) (fun hx1006 h => ?_)
 refine W_z mixed [(6, aB r14_3.2), (7, aB (decide (r13_3.1 = r14_3.1)))] [] [] c0 [q_, q_, qt0, qn (.dec true), q_, q_, qt0, qn (.dec true), q_, qt0, qt0, qt (.val (.bool (decide (r13_3.1 = r14_3.1)))), qn (.dec true), q_, q_] (aC hx1005 (aC hx1005 (aC hx1005 (aC hx1005 (aC hx1006 (aC hx1006 (aC hx1006 (aC (str_eq_ob (P := Try.prog) 9 r13_3.1 r14_3.1) (aC hx1006 aN))))))))) (by kernel_rfl) ?_
 refine W_ret ?_
 exact kr [] _ _ (by kernel_rfl) (oinj h)
 refine W_z mixed [(6, aB r14_3.2), (7, aB false)] [] [] c0 [q_, q_, qt0, qn (.dec true), q_, q_, qt0, qn (.dec true), q_, qf0, qf0, qf0, qn (.dec false), q_, q_] (aC hx1005 (aC hx1005 (aC hx1005 (aC hx1005 (aC hx1006 (aC hx1006 (aC hx1006 (aC hx1006 aN)))))))) (by kernel_rfl) ?_
 refine W_ret ?_
 exact kr [] _ _ (by kernel_rfl) (oinj h)
 refine W_z mixed [(6, aB false), (7, aB false)] [] [] c0 (q_ :: q_ :: qf0 :: qn (.dec false) :: q_ :: q_ :: qf0 :: qn (.dec false) :: (qz 7 [])) (aC hx1005 (aC hx1005 (aC hx1005 (aC hx1005 aN)))) (by kernel_rfl) ?_
 refine W_ret ?_
 exact kr [] _ _ (by kernel_rfl) (oinj h)
 refine W_z mixed [(103, aB (decide (a1.Kind = 4)))] [4, 5] [k_ 4, k_ 5] (cB [4, 5] []) [q_, q_] aN (by kernel_rfl) ?_
 refine W_cd h (by kernel_rfl) (fun hx1007 h => ?_) (fun hx1007 h => ?_)
 obtain ⟨r17_1, hr17_1, h⟩ := bind_ok h
 have hr17_1 := hindcastref13_comp_ok hr17_1
 obtain ⟨r17_3, hr17_3, h⟩ := bind_ok h
 have hr17_3 := hindcastref13_comp_ok hr17_3
 refine W_z mixed [(6, aB true), (7, aB (decide (r17_1.Re = r17_3.Re) && decide (r17_1.Im = r17_3.Im)))] [] [] c0 [q_, qn (.call [] (e_GApiComp r17_1)), q_, qn (.call [] (e_GApiComp r17_3)), qn (.quiet (aB (decide (r17_1.Re = r17_3.Re) && decide (r17_1.Im = r17_3.Im)))), q_, q_] (aC hr17_1 (aC hr17_3 (aC (show Quiet Try.prog (opAt (subC (bodyC Try.prog 49) [1, 1, 1, 1, 1, 0, 1, 0, 1, 1, 1, 1, 1, 1, 1, 0, 0]) 4) [e_GApiComp r17_1, e_GApiComp r17_3] (aB (decide (r17_1.Re = r17_3.Re) && decide (r17_1.Im = r17_3.Im))) from eqA_ob (P := Try.prog) (ne := false) (xs := [.int .i64 r17_1.Re, .int .i64 r17_1.Im]) (ys := [.int .i64 r17_3.Re, .int .i64 r17_3.Im]) (hh := none) ⟨_, by rfl⟩ (by kernel_rfl) (by kernel_rfl)) aN))) (by kernel_rfl) ?_
 refine W_ret ?_
 exact kr [] _ _ (by kernel_rfl) (oinj h)
 refine W_skip ?_
 refine W_z mixed [(6, aB false), (7, aB false)] [] [] c0 [q_, q_] aN (by kernel_rfl) ?_
 refine W_ret ?_
 exact kr [] _ _ (by kernel_rfl) (oinj h)
 refine W_z mixed [(6, aB false), (7, aB false)] [] [] c0 [q_, q_] aN (by kernel_rfl) ?_
 refine W_ret ?_
 exact kr [] _ _ (by kernel_rfl) (oinj h)
set_option maxRecDepth 100000 in
theorem hindcastref13_W_equal_j1_ok (v1_8_0 : Bool) (v1_9_0 : Bool) (a0 : GHindcastref13W) (a1 : GApiValue) (a2 : GApiValue) (r_ : (Bool × Bool)) (Q' : Exit → St → Prop) (kr : KR Try.prog 49 hindcastref13_W_equal_e r_ .ret Q')  (h : hindcastref13_W_equal_j1 v1_8_0 v1_9_0 a0 a1 a2 = some r_) : W Try.prog (subC (bodyC Try.prog 49) [1, 1, 1]) (hindcastref13_W_equal_j1_s v1_8_0 v1_9_0 a0 a1 a2).st Q' := by
 unfold hindcastref13_W_equal_j1 at h
 refine W_seq ?_
 refine ib_c h (fun hx2001 h => ?_) (fun hx2001 h => ?_)
 refine W_z mixed [(33, aB v1_9_0)] [3, 4, 5] [k_ 3, k_ 4, k_ 5] (cB [3, 4, 5] []) [q_, q_, qt0, qn (.dec true)] (aC hx2001 (aC hx2001 aN)) (by kernel_rfl) ?_
 refine W_cb h (by kernel_rfl) (fun hx2002 h => ?_) (fun hx2002 h => ?_)
 refine if_c h (fun hx2003 h => ?_) (fun hx2003 h => ?_)
 refine if_c h (fun hx2004 h => ?_) (fun hx2004 h => ?_)
 refine W_z mixed [(6, aB true), (7, aB true)] [] [] c0 (qz 6 [qt0, qt0, qt0, qt0, qt0, qt0, qt0, qt0, qt0, qt (.dec true), qn (.dec true), q_, q_]) (aC hx2003 (aC hx2003 (aC hx2003 (aC hx2003 (aC hx2004 (aC hx2004 (aC hx2004 (aC hx2004 (aC hx2004 (aC hx2003 (aC hx2004 (aC hx2003 aN)))))))))))) (by kernel_rfl) ?_
 refine W_ret ?_
 exact kr [] _ _ (by kernel_rfl) (oinj h)
 refine W_z mixed [(6, aB true), (7, aB (decide (a1.N = a2.N)))] [] [] c0 (qz 6 [qt0, qt0, qt0, qt0, qf0, qf0, qf0, qf0, qf0, qt (.dec false), qn (.dec true), q_, q_]) (aC hx2003 (aC hx2003 (aC hx2003 (aC hx2003 (aC hx2004 (aC hx2004 (aC hx2004 (aC hx2004 (aC hx2004 (aC hx2003 (aC hx2004 (aC hx2003 aN)))))))))))) (by kernel_rfl) ?_
 refine W_ret ?_
 exact kr [] _ _ (by kernel_rfl) (oinj h)
 refine W_z mixed [(6, aB true), (7, aB false)] [] [] c0 (qz 6 [qf0, qf0, qf0, qf0, q_, q_, q_, q_, q_, qf0, qn (.dec false), q_, q_]) (aC hx2003 (aC hx2003 (aC hx2003 (aC hx2003 (aC hx2003 (aC hx2003 aN)))))) (by kernel_rfl) ?_
 refine W_ret ?_
 exact kr [] _ _ (by kernel_rfl) (oinj h)
 refine W_skip ?_
 exact W_conv (cB [3, 4, 5] [] [3, 4, 5]) (by kernel_rfl) (hindcastref13_W_equal_j0_ok a0 a1 a2 r_ _ kr h)
 refine W_z mixed [(33, aB false)] [3, 4, 5] [k_ 3, k_ 4, k_ 5] (cB [3, 4, 5] []) [q_, q_, qf0, qn (.dec false)] (aC hx2001 (aC hx2001 aN)) (by kernel_rfl) ?_
 refine W_cf (e := false) rfl (by kernel_rfl) ?_
 refine W_skip ?_
 exact W_conv (cB [3, 4, 5] [] [3, 4, 5]) (by kernel_rfl) (hindcastref13_W_equal_j0_ok a0 a1 a2 r_ _ kr h)
set_option maxRecDepth 100000 in
theorem hindcastref13_W_equal_j2_ok (v2_8_0 : Bool) (a0 : GHindcastref13W) (a1 : GApiValue) (a2 : GApiValue) (r_ : (Bool × Bool)) (Q' : Exit → St → Prop) (kr : KR Try.prog 49 hindcastref13_W_equal_e r_ .ret Q')  (h : hindcastref13_W_equal_j2 v2_8_0 a0 a1 a2 = some r_) : W Try.prog (subC (bodyC Try.prog 49) [1, 1]) (hindcastref13_W_equal_j2_s v2_8_0 a0 a1 a2).st Q' := by
 unfold hindcastref13_W_equal_j2 at h
 refine if_c h (fun hx3001 h => ?_) (fun hx3001 h => ?_)
 refine W_z mixed [(9, aB (decide (a2.Kind ≤ 7)))] [3, 4, 5, 8] [k_ 3, k_ 4, k_ 5] (cB [3, 4, 5] []) [q_, q_, q_, q_, qt0, qt0, qt0, qn (.dec true), q_] (aC hx3001 (aC hx3001 (aC hx3001 (aC hx3001 aN)))) (by kernel_rfl) ?_
 exact W_conv (cB [3, 4, 5] [] [3, 4, 5, 8, 9]) (by kernel_rfl) (hindcastref13_W_equal_j1_ok v2_8_0 (decide (a2.Kind ≤ 7)) a0 a1 a2 r_ _ kr h)
 refine W_z mixed [(9, aB false)] [3, 4, 5, 8] [k_ 3, k_ 4, k_ 5] (cB [3, 4, 5] []) [q_, q_, q_, q_, qf0, qf0, qf0, qn (.dec false), q_] (aC hx3001 (aC hx3001 (aC hx3001 (aC hx3001 aN)))) (by kernel_rfl) ?_
 exact W_conv (cB [3, 4, 5] [] [3, 4, 5, 8, 9]) (by kernel_rfl) (hindcastref13_W_equal_j1_ok v2_8_0 false a0 a1 a2 r_ _ kr h)
noncomputable def hindcastref13_W_equal (a0 : GHindcastref13W) (a1 : GApiValue) (a2 : GApiValue) : Option (Bool × Bool) :=
  (if a1.Kind ≥ 5 then hindcastref13_W_equal_j2 (decide (a1.Kind ≤ 7)) a0 a1 a2 else hindcastref13_W_equal_j2 false a0 a1 a2)
set_option maxRecDepth 100000 in
theorem hindcastref13_W_equal_ok {a0 : GHindcastref13W} {a1 : GApiValue} {a2 : GApiValue} {r_ : (Bool × Bool)} (h : hindcastref13_W_equal a0 a1 a2 = some r_) : R_hindcastref13_W_equal a0 a1 a2 r_ := by
 unfold hindcastref13_W_equal at h
 refine fn_pureZ (enc := hindcastref13_W_equal_e) (by kernel_rfl) fun Q' kr kn => ?_
 refine W_z mixed [(3, .ptr 3 0), (4, .ptr 4 0), (5, .ptr 5 0)] [] [(3, some (.box 44 [aI .i64 a0.H.Room, aI .i64 a0.H.Cells, .t (.sl 4 (a0.H.L.map c_GApiObj)), .t (.sl 1 (a0.In.map c_i64)), .t (.sl 1 (a0.Draws.map c_i64)), aI .i64 a0.Read, aI .i64 a0.Drawn])), (4, some (.box 23 [aI .u8 a1.Kind, aI .i64 a1.N, aI .i64 a1.Re, aI .i64 a1.Im])), (5, some (.box 23 [aI .u8 a2.Kind, aI .i64 a2.N, aI .i64 a2.Re, aI .i64 a2.Im]))] (cB [3, 4, 5] []) (qz 5 []) aN (by kernel_rfl) ?_
 refine if_c h (fun hx1 h => ?_) (fun hx1 h => ?_)
 refine W_z mixed [(8, aB (decide (a1.Kind ≤ 7)))] [3, 4, 5] [k_ 3, k_ 4, k_ 5] (cB [3, 4, 5] []) [q_, q_, q_, q_, qt0, qt0, qt0, qn (.dec true), q_] (aC hx1 (aC hx1 (aC hx1 (aC hx1 aN)))) (by kernel_rfl) ?_
 exact W_conv (cB [3, 4, 5] [] [3, 4, 5, 8]) (by kernel_rfl) (hindcastref13_W_equal_j2_ok (decide (a1.Kind ≤ 7)) a0 a1 a2 r_ _ kr h)
 refine W_z mixed [(8, aB false)] [3, 4, 5] [k_ 3, k_ 4, k_ 5] (cB [3, 4, 5] []) [q_, q_, q_, q_, qf0, qf0, qf0, qn (.dec false), q_] (aC hx1 (aC hx1 (aC hx1 (aC hx1 aN)))) (by kernel_rfl) ?_
 exact W_conv (cB [3, 4, 5] [] [3, 4, 5, 8]) (by kernel_rfl) (hindcastref13_W_equal_j2_ok false a0 a1 a2 r_ _ kr h)
def R_hindcastref13_order (a0 : Int) (a1 : Int) (r : Int) : Prop := FnP Try.prog 83 [aI .i64 a0, aI .i64 a1] (aI .i64 r)
abbrev hindcastref13_order_e (x : Int) : A := (aI .i64 x)
noncomputable def hindcastref13_order (a0 : Int) (a1 : Int) : Option Int :=
  (if a0 < a1 then (some (-1)) else (if a0 > a1 then (some 1) else (some 0)))
set_option maxRecDepth 100000 in
theorem hindcastref13_order_ok {a0 : Int} {a1 : Int} {r_ : Int} (h : hindcastref13_order a0 a1 = some r_) : R_hindcastref13_order a0 a1 r_ := by
 unfold hindcastref13_order at h
 refine fn_pureZ (enc := hindcastref13_order_e) (by kernel_rfl) fun Q' kr kn => ?_
 refine W_z mixed [] [0, 1] [] c0 [q_] aN (by kernel_rfl) ?_
 refine W_seq ?_
 refine W_z mixed [(7, aB (decide (a0 < a1)))] [0, 1] [] c0 [q_, q_, q_] aN (by kernel_rfl) ?_
 refine W_cd h (by kernel_rfl) (fun hx1 h => ?_) (fun hx1 h => ?_)
 refine W_z mixed [(4, aI .i64 (-1))] [] [] c0 [q_] aN (by kernel_rfl) ?_
 refine W_ret ?_
 exact kr [] _ _ (by kernel_rfl) (oinj h)
 refine W_skip ?_
 refine W_seq ?_
 refine W_z mixed [(10, aB (decide (a0 > a1)))] [] [] c0 [q_, q_, q_] aN (by kernel_rfl) ?_
 refine W_cd h (by kernel_rfl) (fun hx2 h => ?_) (fun hx2 h => ?_)
 refine W_z mixed [(4, aI .i64 1)] [] [] c0 [q_] aN (by kernel_rfl) ?_
 refine W_ret ?_
 exact kr [] _ _ (by kernel_rfl) (oinj h)
 refine W_skip ?_
 refine W_z mixed [(4, aI .i64 0)] [] [] c0 [q_] aN (by kernel_rfl) ?_
 refine W_ret ?_
 exact kr [] _ _ (by kernel_rfl) (oinj h)
def R_hindcastref13_numbers (a0 : Int) (a1 : Int) (a2 : Int) (r : (GApiValue × Int × Bool)) : Prop := FnP Try.prog 50 [aI .i64 a0, aI .i64 a1, aI .i64 a2] (.tup [e_GApiValue r.1, aI .i64 r.2.1, aB r.2.2])
abbrev hindcastref13_numbers_e (x : (GApiValue × Int × Bool)) : A := (.tup [e_GApiValue x.1, aI .i64 x.2.1, aB x.2.2])
noncomputable def hindcastref13_numbers_j0 (a0 : Int) (a1 : Int) (a2 : Int) : Option (GApiValue × Int × Bool) :=
  (if a2 = 0 then (some ((GApiValue.mk 0 0 0 0), 1, true)) else ((xhindcastref01_Div a1 a2).bind fun (r15_2 : (Int × Int)) => (if a0 = 4 then ((hindcastref13_number r15_2.1).bind fun (r17_1 : GApiValue) => (some (r17_1, 0, true))) else ((hindcastref13_number r15_2.2).bind fun (r18_1 : GApiValue) => (some (r18_1, 0, true))))))
def hindcastref13_numbers_j0_s (a0 : Int) (a1 : Int) (a2 : Int) : LS := LS.mk 93 [(0, aI .i64 a0), (1, aI .i64 a1), (2, aI .i64 a2), (6, .ptr 6 0)] [(6, some (.box 23 [aI .u8 0, aI .i64 0, aI .i64 0, aI .i64 0]))]
set_option maxRecDepth 100000 in
theorem hindcastref13_numbers_j0_ok (a0 : Int) (a1 : Int) (a2 : Int) (r_ : (GApiValue × Int × Bool)) (Q' : Exit → St → Prop) (kr : KR Try.prog 50 hindcastref13_numbers_e r_ .ret Q')  (h : hindcastref13_numbers_j0 a0 a1 a2 = some r_) : W Try.prog (subC (bodyC Try.prog 50) [1, 1, 1, 1, 0, 1, 0, 1, 1, 1, 1, 1, 1, 1, 0]) (hindcastref13_numbers_j0_s a0 a1 a2).st Q' := by
 unfold hindcastref13_numbers_j0 at h
 refine W_seq ?_
 refine W_z mixed [(48, aB (decide (a2 = 0)))] [0, 1, 2, 6] [k_ 6] (cB [6] []) [q_, q_] aN (by kernel_rfl) ?_
 refine W_cd h (by kernel_rfl) (fun hx1001 h => ?_) (fun hx1001 h => ?_)
 refine W_z mixed [(7, aI .i64 1), (8, aB true)] [6] [k_ 6] (cB [6] []) (qz 4 []) aN (by kernel_rfl) ?_
 refine W_ret ?_
 exact kr [] _ _ (by kernel_rfl) (oinj h)
 refine W_skip ?_
 obtain ⟨r15_2, hr15_2, h⟩ := bind_ok h
 have hr15_2 := xhindcastref01_Div_ok hr15_2
 refine W_z mixed [(12, aI .i64 r15_2.1), (13, aI .i64 r15_2.2)] [0, 6] [k_ 6] (cB [6] []) [q_, q_, qn (.call [] (.tup [aI .i64 r15_2.1, aI .i64 r15_2.2])), q_, q_, q_, q_, q_] (aC hr15_2 aN) (by kernel_rfl) ?_
 refine W_seq ?_
 refine W_z mixed [(57, aB (decide (a0 = 4)))] [6, 12, 13] [k_ 6] (cB [6] []) [q_, q_] aN (by kernel_rfl) ?_
 refine W_cd h (by kernel_rfl) (fun hx1002 h => ?_) (fun hx1002 h => ?_)
 obtain ⟨r17_1, hr17_1, h⟩ := bind_ok h
 have hr17_1 := hindcastref13_number_ok hr17_1
 refine W_z mixed [(7, aI .i64 0), (8, aB true)] [6] [(6, some (.box 23 [aI .u8 r17_1.Kind, aI .i64 r17_1.N, aI .i64 r17_1.Re, aI .i64 r17_1.Im]))] (cB [6] []) [q_, qn (.call [] (e_GApiValue r17_1)), q_, q_, q_] (aC hr17_1 aN) (by kernel_rfl) ?_
 refine W_ret ?_
 exact kr [] _ _ (by kernel_rfl) (oinj h)
 refine W_skip ?_
 obtain ⟨r18_1, hr18_1, h⟩ := bind_ok h
 have hr18_1 := hindcastref13_number_ok hr18_1
 refine W_z mixed [(7, aI .i64 0), (8, aB true)] [6] [(6, some (.box 23 [aI .u8 r18_1.Kind, aI .i64 r18_1.N, aI .i64 r18_1.Re, aI .i64 r18_1.Im]))] (cB [6] []) [q_, qn (.call [] (e_GApiValue r18_1)), q_, q_, q_] (aC hr18_1 aN) (by kernel_rfl) ?_
 refine W_ret ?_
 exact kr [] _ _ (by kernel_rfl) (oinj h)
noncomputable def hindcastref13_numbers (a0 : Int) (a1 : Int) (a2 : Int) : Option (GApiValue × Int × Bool) :=
  ((xhindcastref01_Of a1).bind fun (r1_1 : GHindcastref01D) => ((xhindcastref01_Of a2).bind fun (r2_1 : GHindcastref01D) => ((hindcastref13_order a1 a2).bind fun (r3_2 : Int) => (if a0 = 1 then ((xhindcastref01_Plus r1_1 r2_1).bind fun (r6_2 : GHindcastref01D) => ((xhindcastref01_D_Number r6_2).bind fun (r6_3 : Int) => ((hindcastref13_number r6_3).bind fun (r6_4 : GApiValue) => (some (r6_4, 0, true))))) else (if a0 = 2 then ((xhindcastref01_Minus r2_1).bind fun (r8_2 : GHindcastref01D) => ((xhindcastref01_Plus r1_1 r8_2).bind fun (r8_3 : GHindcastref01D) => ((xhindcastref01_D_Number r8_3).bind fun (r8_4 : Int) => ((hindcastref13_number r8_4).bind fun (r8_5 : GApiValue) => (some (r8_5, 0, true)))))) else (if a0 = 3 then ((xhindcastref01_Times r1_1 r2_1).bind fun (r10_2 : GHindcastref01D) => ((xhindcastref01_D_Number r10_2).bind fun (r10_3 : Int) => ((hindcastref13_number r10_3).bind fun (r10_4 : GApiValue) => (some (r10_4, 0, true))))) else (if a0 = 4 then hindcastref13_numbers_j0 a0 a1 a2 else (if a0 = 5 then hindcastref13_numbers_j0 a0 a1 a2 else (if a0 = 6 then ((hindcastref13_Truth (decide (r3_2 = 0))).bind fun (r20_2 : GApiValue) => (some (r20_2, 0, true))) else (if a0 = 7 then ((hindcastref13_Truth (!(decide (r3_2 = 0)))).bind fun (r22_2 : GApiValue) => (some (r22_2, 0, true))) else (if a0 = 8 then ((hindcastref13_Truth (decide (r3_2 < 0))).bind fun (r24_2 : GApiValue) => (some (r24_2, 0, true))) else (if a0 = 9 then ((hindcastref13_Truth (decide (r3_2 ≤ 0))).bind fun (r26_2 : GApiValue) => (some (r26_2, 0, true))) else (if a0 = 10 then ((hindcastref13_Truth (decide (r3_2 > 0))).bind fun (r28_2 : GApiValue) => (some (r28_2, 0, true))) else (if a0 = 11 then ((hindcastref13_Truth (decide (r3_2 ≥ 0))).bind fun (r30_2 : GApiValue) => (some (r30_2, 0, true))) else (some ((GApiValue.mk 0 0 0 0), 0, false))))))))))))))))
set_option maxRecDepth 100000 in
theorem hindcastref13_numbers_ok {a0 : Int} {a1 : Int} {a2 : Int} {r_ : (GApiValue × Int × Bool)} (h : hindcastref13_numbers a0 a1 a2 = some r_) : R_hindcastref13_numbers a0 a1 a2 r_ := by
 unfold hindcastref13_numbers at h
 refine fn_pureZ (enc := hindcastref13_numbers_e) (by kernel_rfl) fun Q' kr kn => ?_
 refine W_z mixed [(6, .ptr 6 0)] [0, 1, 2] [(6, some (.box 23 [aI .u8 0, aI .i64 0, aI .i64 0, aI .i64 0]))] (cB [6] []) [q_, q_, q_] aN (by kernel_rfl) ?_
 obtain ⟨r1_1, hr1_1, h⟩ := bind_ok h
 have hr1_1 := xhindcastref01_Of_ok hr1_1
 refine W_z mixed [(9, .ptr 9 0)] [0, 1, 2, 6] [k_ 6, (9, some (.box 74 [aI .i64 r1_1.e0_, aI .i64 r1_1.e1_, aI .i64 r1_1.e2_, aI .i64 r1_1.e3_, aI .i64 r1_1.e4_, aI .i64 r1_1.e5_, aI .i64 r1_1.e6_, aI .i64 r1_1.e7_]))] (cB [6, 9] []) [q_, qn (.call [] (e_GHindcastref01D r1_1)), q_, q_] (aC hr1_1 aN) (by kernel_rfl) ?_
 obtain ⟨r2_1, hr2_1, h⟩ := bind_ok h
 have hr2_1 := xhindcastref01_Of_ok hr2_1
 refine W_z mixed [(10, .ptr 10 0)] [0, 1, 2, 6, 9] [k_ 6, k_ 9, (10, some (.box 74 [aI .i64 r2_1.e0_, aI .i64 r2_1.e1_, aI .i64 r2_1.e2_, aI .i64 r2_1.e3_, aI .i64 r2_1.e4_, aI .i64 r2_1.e5_, aI .i64 r2_1.e6_, aI .i64 r2_1.e7_]))] (cB [6, 9, 10] []) [q_, qn (.call [] (e_GHindcastref01D r2_1)), q_, q_] (aC hr2_1 aN) (by kernel_rfl) ?_
 obtain ⟨r3_2, hr3_2, h⟩ := bind_ok h
 have hr3_2 := hindcastref13_order_ok hr3_2
 refine W_z mixed [(11, aI .i64 r3_2)] [0, 1, 2, 6, 9, 10] [k_ 6, k_ 9, k_ 10] (cB [6, 9, 10] []) [q_, q_, qn (.call [] (aI .i64 r3_2)), q_] (aC hr3_2 aN) (by kernel_rfl) ?_
 refine W_seq ?_
 refine W_z mixed [(21, aI .i64 a0)] [0, 1, 2, 6, 9, 10, 11] [k_ 6, k_ 9, k_ 10] (cB [6, 9, 10] []) [q_] aN (by kernel_rfl) ?_
 refine W_block ?_
 refine W_z mixed [(22, aB (decide (a0 = 1)))] [0, 1, 2, 6, 9, 10, 11, 21] [k_ 6, k_ 9, k_ 10] (cB [6, 9, 10] []) [q_, q_] aN (by kernel_rfl) ?_
 refine W_cd h (by kernel_rfl) (fun hx1 h => ?_) (fun hx1 h => ?_)
 obtain ⟨r6_2, hr6_2, h⟩ := bind_ok h
 have hr6_2 := xhindcastref01_Plus_ok hr6_2
 obtain ⟨r6_3, hr6_3, h⟩ := bind_ok h
 have hr6_3 := xhindcastref01_D_Number_ok hr6_3
 obtain ⟨r6_4, hr6_4, h⟩ := bind_ok h
 have hr6_4 := hindcastref13_number_ok hr6_4
 refine W_z mixed [(7, aI .i64 0), (8, aB true)] [6] [(6, some (.box 23 [aI .u8 r6_4.Kind, aI .i64 r6_4.N, aI .i64 r6_4.Re, aI .i64 r6_4.Im]))] (cB [6] []) [q_, q_, qn (.call [] (e_GHindcastref01D r6_2)), qn (.call [] (aI .i64 r6_3)), qn (.call [] (e_GApiValue r6_4)), q_, q_, q_] (aC hr6_2 (aC hr6_3 (aC hr6_4 aN))) (by kernel_rfl) ?_
 refine W_ret ?_
 exact kr [] _ _ (by kernel_rfl) (oinj h)
 refine W_z mixed [(29, aB (decide (a0 = 2)))] [0, 1, 2, 6, 9, 10, 11, 21] [k_ 6, k_ 9, k_ 10] (cB [6, 9, 10] []) [q_, q_] aN (by kernel_rfl) ?_
 refine W_cd h (by kernel_rfl) (fun hx2 h => ?_) (fun hx2 h => ?_)
 obtain ⟨r8_2, hr8_2, h⟩ := bind_ok h
 have hr8_2 := xhindcastref01_Minus_ok hr8_2
 obtain ⟨r8_3, hr8_3, h⟩ := bind_ok h
 have hr8_3 := xhindcastref01_Plus_ok hr8_3
 obtain ⟨r8_4, hr8_4, h⟩ := bind_ok h
 have hr8_4 := xhindcastref01_D_Number_ok hr8_4
 obtain ⟨r8_5, hr8_5, h⟩ := bind_ok h
 have hr8_5 := hindcastref13_number_ok hr8_5
 refine W_z mixed [(7, aI .i64 0), (8, aB true)] [6] [(6, some (.box 23 [aI .u8 r8_5.Kind, aI .i64 r8_5.N, aI .i64 r8_5.Re, aI .i64 r8_5.Im]))] (cB [6] []) [q_, q_, qn (.call [] (e_GHindcastref01D r8_2)), qn (.call [] (e_GHindcastref01D r8_3)), qn (.call [] (aI .i64 r8_4)), qn (.call [] (e_GApiValue r8_5)), q_, q_, q_] (aC hr8_2 (aC hr8_3 (aC hr8_4 (aC hr8_5 aN)))) (by kernel_rfl) ?_
 refine W_ret ?_
 exact kr [] _ _ (by kernel_rfl) (oinj h)
 refine W_z mixed [(37, aB (decide (a0 = 3)))] [0, 1, 2, 6, 9, 10, 11, 21] [k_ 6, k_ 9, k_ 10] (cB [6, 9, 10] []) [q_, q_] aN (by kernel_rfl) ?_
 refine W_cd h (by kernel_rfl) (fun hx3 h => ?_) (fun hx3 h => ?_)
 obtain ⟨r10_2, hr10_2, h⟩ := bind_ok h
 have hr10_2 := xhindcastref01_Times_ok hr10_2
 obtain ⟨r10_3, hr10_3, h⟩ := bind_ok h
 have hr10_3 := xhindcastref01_D_Number_ok hr10_3
 obtain ⟨r10_4, hr10_4, h⟩ := bind_ok h
 have hr10_4 := hindcastref13_number_ok hr10_4
 refine W_z mixed [(7, aI .i64 0), (8, aB true)] [6] [(6, some (.box 23 [aI .u8 r10_4.Kind, aI .i64 r10_4.N, aI .i64 r10_4.Re, aI .i64 r10_4.Im]))] (cB [6] []) [q_, q_, qn (.call [] (e_GHindcastref01D r10_2)), qn (.call [] (aI .i64 r10_3)), qn (.call [] (e_GApiValue r10_4)), q_, q_, q_] (aC hr10_2 (aC hr10_3 (aC hr10_4 aN))) (by kernel_rfl) ?_
 refine W_ret ?_
 exact kr [] _ _ (by kernel_rfl) (oinj h)
 refine W_seq ?_
 refine W_z mixed [(44, aB (decide (a0 = 4)))] [0, 1, 2, 6, 11, 21] [k_ 6] (cB [6] []) [q_, q_] aN (by kernel_rfl) ?_
 refine W_cd h (by kernel_rfl) (fun hx4 h => ?_) (fun hx4 h => ?_)
 refine W_skip ?_
 refine W_ct (e := (decide (a0 = 4))) hx4 (by kernel_rfl) ?_
 exact W_conv (cB [6] [] [0, 1, 2, 6]) (by kernel_rfl) (hindcastref13_numbers_j0_ok a0 a1 a2 r_ _ kr h)
 refine W_zl mixed [(44, aB (decide (a0 = 5)))] [0, 1, 2, 6, 11, 21] [k_ 6] (cB [6] []) [q_, q_] aN (by kernel_rfl) ?_
 refine W_cd h (by kernel_rfl) (fun hx5 h => ?_) (fun hx5 h => ?_)
 exact W_conv (cB [6] [] [0, 1, 2, 6]) (by kernel_rfl) (hindcastref13_numbers_j0_ok a0 a1 a2 r_ _ kr h)
 refine W_z mixed [(62, aB (decide (a0 = 6)))] [6, 11, 21] [k_ 6] (cB [6] []) [q_, q_] aN (by kernel_rfl) ?_
 refine W_cd h (by kernel_rfl) (fun hx6 h => ?_) (fun hx6 h => ?_)
 obtain ⟨r20_2, hr20_2, h⟩ := bind_ok h
 have hr20_2 := hindcastref13_Truth_ok hr20_2
 refine W_z mixed [(7, aI .i64 0), (8, aB true)] [6] [(6, some (.box 23 [aI .u8 r20_2.Kind, aI .i64 r20_2.N, aI .i64 r20_2.Re, aI .i64 r20_2.Im]))] (cB [6] []) [q_, q_, qn (.call [] (e_GApiValue r20_2)), q_, q_, q_] (aC hr20_2 aN) (by kernel_rfl) ?_
 refine W_ret ?_
 exact kr [] _ _ (by kernel_rfl) (oinj h)
 refine W_z mixed [(67, aB (decide (a0 = 7)))] [6, 11, 21] [k_ 6] (cB [6] []) [q_, q_] aN (by kernel_rfl) ?_
 refine W_cd h (by kernel_rfl) (fun hx7 h => ?_) (fun hx7 h => ?_)
 obtain ⟨r22_2, hr22_2, h⟩ := bind_ok h
 have hr22_2 := hindcastref13_Truth_ok hr22_2
 refine W_z mixed [(7, aI .i64 0), (8, aB true)] [6] [(6, some (.box 23 [aI .u8 r22_2.Kind, aI .i64 r22_2.N, aI .i64 r22_2.Re, aI .i64 r22_2.Im]))] (cB [6] []) [q_, q_, qn (.call [] (e_GApiValue r22_2)), q_, q_, q_] (aC hr22_2 aN) (by kernel_rfl) ?_
 refine W_ret ?_
 exact kr [] _ _ (by kernel_rfl) (oinj h)
 refine W_z mixed [(72, aB (decide (a0 = 8)))] [6, 11, 21] [k_ 6] (cB [6] []) [q_, q_] aN (by kernel_rfl) ?_
 refine W_cd h (by kernel_rfl) (fun hx8 h => ?_) (fun hx8 h => ?_)
 obtain ⟨r24_2, hr24_2, h⟩ := bind_ok h
 have hr24_2 := hindcastref13_Truth_ok hr24_2
 refine W_z mixed [(7, aI .i64 0), (8, aB true)] [6] [(6, some (.box 23 [aI .u8 r24_2.Kind, aI .i64 r24_2.N, aI .i64 r24_2.Re, aI .i64 r24_2.Im]))] (cB [6] []) [q_, q_, qn (.call [] (e_GApiValue r24_2)), q_, q_, q_] (aC hr24_2 aN) (by kernel_rfl) ?_
 refine W_ret ?_
 exact kr [] _ _ (by kernel_rfl) (oinj h)
 refine W_z mixed [(77, aB (decide (a0 = 9)))] [6, 11, 21] [k_ 6] (cB [6] []) [q_, q_] aN (by kernel_rfl) ?_
 refine W_cd h (by kernel_rfl) (fun hx9 h => ?_) (fun hx9 h => ?_)
 obtain ⟨r26_2, hr26_2, h⟩ := bind_ok h
 have hr26_2 := hindcastref13_Truth_ok hr26_2
 refine W_z mixed [(7, aI .i64 0), (8, aB true)] [6] [(6, some (.box 23 [aI .u8 r26_2.Kind, aI .i64 r26_2.N, aI .i64 r26_2.Re, aI .i64 r26_2.Im]))] (cB [6] []) [q_, q_, qn (.call [] (e_GApiValue r26_2)), q_, q_, q_] (aC hr26_2 aN) (by kernel_rfl) ?_
 refine W_ret ?_
 exact kr [] _ _ (by kernel_rfl) (oinj h)
 refine W_z mixed [(82, aB (decide (a0 = 10)))] [6, 11, 21] [k_ 6] (cB [6] []) [q_, q_] aN (by kernel_rfl) ?_
 refine W_cd h (by kernel_rfl) (fun hx10 h => ?_) (fun hx10 h => ?_)
 obtain ⟨r28_2, hr28_2, h⟩ := bind_ok h
 have hr28_2 := hindcastref13_Truth_ok hr28_2
 refine W_z mixed [(7, aI .i64 0), (8, aB true)] [6] [(6, some (.box 23 [aI .u8 r28_2.Kind, aI .i64 r28_2.N, aI .i64 r28_2.Re, aI .i64 r28_2.Im]))] (cB [6] []) [q_, q_, qn (.call [] (e_GApiValue r28_2)), q_, q_, q_] (aC hr28_2 aN) (by kernel_rfl) ?_
 refine W_ret ?_
 exact kr [] _ _ (by kernel_rfl) (oinj h)
 refine W_z mixed [(87, aB (decide (a0 = 11)))] [6, 11] [k_ 6] (cB [6] []) [q_, q_] aN (by kernel_rfl) ?_
 refine W_cd h (by kernel_rfl) (fun hx11 h => ?_) (fun hx11 h => ?_)
 obtain ⟨r30_2, hr30_2, h⟩ := bind_ok h
 have hr30_2 := hindcastref13_Truth_ok hr30_2
 refine W_z mixed [(7, aI .i64 0), (8, aB true)] [6] [(6, some (.box 23 [aI .u8 r30_2.Kind, aI .i64 r30_2.N, aI .i64 r30_2.Re, aI .i64 r30_2.Im]))] (cB [6] []) [q_, q_, qn (.call [] (e_GApiValue r30_2)), q_, q_, q_] (aC hr30_2 aN) (by kernel_rfl) ?_
 refine W_ret ?_
 exact kr [] _ _ (by kernel_rfl) (oinj h)
 refine W_skip ?_
 refine W_z mixed [(7, aI .i64 0), (8, aB false)] [6] [k_ 6] (cB [6] []) (qz 4 []) aN (by kernel_rfl) ?_
 refine W_ret ?_
 exact kr [] _ _ (by kernel_rfl) (oinj h)
def R_hindcastref02_Add (a0 : GApiComp) (a1 : GApiComp) (r : GApiComp) : Prop := FnP Try.prog 51 [e_GApiComp a0, e_GApiComp a1] (e_GApiComp r)
abbrev hindcastref02_Add_e (x : GApiComp) : A := (e_GApiComp x)
noncomputable def hindcastref02_Add (a0 : GApiComp) (a1 : GApiComp) : Option GApiComp :=
  ((hindcastref02_Part a0.Re).bind fun (r1_2 : Int) => ((hindcastref02_Part a1.Re).bind fun (r1_5 : Int) => ((hindcastref02_Part a0.Im).bind fun (r1_9 : Int) => ((hindcastref02_Part a1.Im).bind fun (r1_12 : Int) => ((hindcastref02_Of (w64 (r1_2 + r1_5)) (w64 (r1_9 + r1_12))).bind fun (r1_14 : GApiComp) => (some r1_14))))))
set_option maxRecDepth 100000 in
theorem hindcastref02_Add_ok {a0 : GApiComp} {a1 : GApiComp} {r_ : GApiComp} (h : hindcastref02_Add a0 a1 = some r_) : R_hindcastref02_Add a0 a1 r_ := by
 unfold hindcastref02_Add at h
 refine fn_pureZ (enc := hindcastref02_Add_e) (by kernel_rfl) fun Q' kr kn => ?_
 refine W_z mixed [(2, .ptr 2 0), (3, .ptr 3 0), (4, .ptr 4 0)] [] [(2, some (.box 69 [aI .i64 a0.Re, aI .i64 a0.Im])), (3, some (.box 69 [aI .i64 a1.Re, aI .i64 a1.Im])), (4, some (.box 69 [aI .i64 0, aI .i64 0]))] (cB [2, 3, 4] []) [q_, q_, q_] aN (by kernel_rfl) ?_
 obtain ⟨r1_2, hr1_2, h⟩ := bind_ok h
 have hr1_2 := hindcastref02_Part_ok hr1_2
 obtain ⟨r1_5, hr1_5, h⟩ := bind_ok h
 have hr1_5 := hindcastref02_Part_ok hr1_5
 obtain ⟨r1_9, hr1_9, h⟩ := bind_ok h
 have hr1_9 := hindcastref02_Part_ok hr1_9
 obtain ⟨r1_12, hr1_12, h⟩ := bind_ok h
 have hr1_12 := hindcastref02_Part_ok hr1_12
 obtain ⟨r1_14, hr1_14, h⟩ := bind_ok h
 have hr1_14 := hindcastref02_Of_ok hr1_14
 refine W_z mixed [] [4] [(4, some (.box 69 [aI .i64 r1_14.Re, aI .i64 r1_14.Im]))] (cB [4] []) [q_, q_, qn (.call [] (aI .i64 r1_2)), q_, q_, qn (.call [] (aI .i64 r1_5)), q_, q_, q_, qn (.call [] (aI .i64 r1_9)), q_, q_, qn (.call [] (aI .i64 r1_12)), q_, qn (.call [] (e_GApiComp r1_14)), q_] (aC hr1_2 (aC hr1_5 (aC hr1_9 (aC hr1_12 (aC hr1_14 aN))))) (by kernel_rfl) ?_
 refine W_ret ?_
 exact kr [] _ _ (by kernel_rfl) (oinj h)
def R_hindcastref02_Mul (a0 : GApiComp) (a1 : GApiComp) (r : GApiComp) : Prop := FnP Try.prog 52 [e_GApiComp a0, e_GApiComp a1] (e_GApiComp r)
abbrev hindcastref02_Mul_e (x : GApiComp) : A := (e_GApiComp x)
noncomputable def hindcastref02_Mul (a0 : GApiComp) (a1 : GApiComp) : Option GApiComp :=
  ((hindcastref02_Of a0.Re a0.Im).bind fun (r1_4 : GApiComp) => ((hindcastref02_Of a1.Re a1.Im).bind fun (r2_4 : GApiComp) => ((hindcastref02_Of (w64 ((w64 (r1_4.Re * r2_4.Re)) - (w64 (r1_4.Im * r2_4.Im)))) (w64 ((w64 (r1_4.Re * r2_4.Im)) + (w64 (r1_4.Im * r2_4.Re))))).bind fun (r3_22 : GApiComp) => (some r3_22))))
set_option maxRecDepth 100000 in
theorem hindcastref02_Mul_ok {a0 : GApiComp} {a1 : GApiComp} {r_ : GApiComp} (h : hindcastref02_Mul a0 a1 = some r_) : R_hindcastref02_Mul a0 a1 r_ := by
 unfold hindcastref02_Mul at h
 refine fn_pureZ (enc := hindcastref02_Mul_e) (by kernel_rfl) fun Q' kr kn => ?_
 refine W_z mixed [(2, .ptr 2 0), (3, .ptr 3 0), (4, .ptr 4 0)] [] [(2, some (.box 69 [aI .i64 a0.Re, aI .i64 a0.Im])), (3, some (.box 69 [aI .i64 a1.Re, aI .i64 a1.Im])), (4, some (.box 69 [aI .i64 0, aI .i64 0]))] (cB [2, 3, 4] []) [q_, q_, q_] aN (by kernel_rfl) ?_
 obtain ⟨r1_4, hr1_4, h⟩ := bind_ok h
 have hr1_4 := hindcastref02_Of_ok hr1_4
 refine W_z mixed [(5, .ptr 5 0)] [3, 4] [k_ 3, k_ 4, (5, some (.box 69 [aI .i64 r1_4.Re, aI .i64 r1_4.Im]))] (cB [3, 4, 5] []) [q_, q_, q_, q_, qn (.call [] (e_GApiComp r1_4)), q_, q_] (aC hr1_4 aN) (by kernel_rfl) ?_
 obtain ⟨r2_4, hr2_4, h⟩ := bind_ok h
 have hr2_4 := hindcastref02_Of_ok hr2_4
 refine W_z mixed [(6, .ptr 6 0)] [4, 5] [k_ 4, k_ 5, (6, some (.box 69 [aI .i64 r2_4.Re, aI .i64 r2_4.Im]))] (cB [4, 5, 6] []) [q_, q_, q_, q_, qn (.call [] (e_GApiComp r2_4)), q_, q_] (aC hr2_4 aN) (by kernel_rfl) ?_
 obtain ⟨r3_22, hr3_22, h⟩ := bind_ok h
 have hr3_22 := hindcastref02_Of_ok hr3_22
 refine W_z mixed [] [4] [(4, some (.box 69 [aI .i64 r3_22.Re, aI .i64 r3_22.Im]))] (cB [4] []) (qz 22 [qn (.call [] (e_GApiComp r3_22)), q_]) (aC hr3_22 aN) (by kernel_rfl) ?_
 refine W_ret ?_
 exact kr [] _ _ (by kernel_rfl) (oinj h)
def R_hindcastref11_H_Add (a0 : GHindcastref11H) (a1 : GApiObj) (r : (GApiValue × Bool × GHindcastref11H)) : Prop := FnP Try.prog 98 [e_GHindcastref11H a0, e_GApiObj a1] (.tup [e_GApiValue r.1, aB r.2.1, e_GHindcastref11H r.2.2])
abbrev hindcastref11_H_Add_e (x : (GApiValue × Bool × GHindcastref11H)) : A := (.tup [e_GApiValue x.1, aB x.2.1, e_GHindcastref11H x.2.2])
noncomputable def hindcastref11_H_Add (a0 : GHindcastref11H) (a1 : GApiObj) : Option (GApiValue × Bool × GHindcastref11H) :=
  ((hindcastref11_Cost a1).bind fun (r1_1 : Int) => (if (w64 (a0.Cells + r1_1)) > a0.Room then (some ((GApiValue.mk 0 0 0 0), false, a0)) else (if AppOb 56 (([] : List GApiObj).length + a0.L.length) then (if AppOb 56 ((([] : List GApiObj) ++ a0.L).length + ([a1] : List GApiObj).length) then (some ((GApiValue.mk a1.Kind (((([] : List GApiObj) ++ a0.L) ++ ([a1] : List GApiObj)).length : Int) 0 0), true, (GHindcastref11H.mk a0.Room (w64 (a0.Cells + r1_1)) ((([] : List GApiObj) ++ a0.L) ++ ([a1] : List GApiObj))))) else none) else none)))
set_option maxRecDepth 100000 in
theorem hindcastref11_H_Add_ok {a0 : GHindcastref11H} {a1 : GApiObj} {r_ : (GApiValue × Bool × GHindcastref11H)} (h : hindcastref11_H_Add a0 a1 = some r_) : R_hindcastref11_H_Add a0 a1 r_ := by
 unfold hindcastref11_H_Add at h
 refine fn_pureZ (enc := hindcastref11_H_Add_e) (by kernel_rfl) fun Q' kr kn => ?_
 refine W_z mixed [(2, .ptr 2 0), (3, .ptr 3 0), (4, .ptr 4 0), (6, .ptr 6 0)] [] [(2, some (.box 42 [aI .i64 a0.Room, aI .i64 a0.Cells, .t (.sl 4 (a0.L.map c_GApiObj))])), (3, some (.box 100 [aI .u8 a1.Kind, aI .i64 a1.Of, aS a1.Text, .t (.sl 4 (a1.Vals.map c_GApiValue))])), (4, some (.box 23 [aI .u8 0, aI .i64 0, aI .i64 0, aI .i64 0])), (6, some (.box 42 [aI .i64 0, aI .i64 0, aNil]))] (cB [2, 3, 4, 6] []) (qz 5 []) aN (by kernel_rfl) ?_
 obtain ⟨r1_1, hr1_1, h⟩ := bind_ok h
 have hr1_1 := hindcastref11_Cost_ok hr1_1
 refine W_z mixed [(7, aI .i64 r1_1)] [2, 3, 4, 6] [k_ 2, k_ 3, k_ 4, k_ 6] (cB [2, 3, 4, 6] []) [q_, qn (.call [] (aI .i64 r1_1)), q_] (aC hr1_1 aN) (by kernel_rfl) ?_
 refine W_seq ?_
 refine W_z mixed [(17, aB (decide ((w64 (a0.Cells + r1_1)) > a0.Room)))] [2, 3, 4, 6, 7] [k_ 2, k_ 3, k_ 4, k_ 6] (cB [2, 3, 4, 6] []) (qz 7 []) aN (by kernel_rfl) ?_
 refine W_cd h (by kernel_rfl) (fun hx1 h => ?_) (fun hx1 h => ?_)
 refine W_z mixed [(5, aB false)] [4, 6] [k_ 4, (6, some (.box 42 [aI .i64 a0.Room, aI .i64 a0.Cells, .t (.sl 4 (a0.L.map c_GApiObj))]))] (cB [4, 6] []) (qz 5 []) aN (by kernel_rfl) ?_
 refine W_ret ?_
 exact kr [] _ _ (by kernel_rfl) (oinj h)
 refine W_skip ?_
 refine W_z mixed [(8, .ref 1008)] [2, 3, 4, 6, 7] [k_ 2, k_ 3, k_ 4, k_ 6, (1008, some (.row 100 4 (([] : List GApiObj).map c_GApiObj)))] (cG [] [2, 3, 4, 6] [] [(20, 1008)] [] []) [q_, q_] aN (by kernel_rfl) ?_
 obtain ⟨hd2, h⟩ := ite_ok h
 refine W_z mixed [] [2, 3, 4, 6, 7, 8] [k_ 2, k_ 3, k_ 4, k_ 6, (1008, some (.row 100 4 ((([] : List GApiObj) ++ a0.L).map c_GApiObj)))] (cG [] [2, 3, 4, 6] [] [(24, 1008)] [] []) [q_, q_, q_, qn (.rows ((([] : List GApiObj) ++ a0.L).map c_GApiObj)), q_] (aC (ap_obx c_GApiObj hd2) (aC (app_obx c_GApiObj ([] : List GApiObj) a0.L) aN)) (by kernel_rfl) ?_
 obtain ⟨hd3, h⟩ := ite_ok h
 refine W_z mixed [] [2, 3, 4, 6, 7, 8] [k_ 2, k_ 3, k_ 4, k_ 6, (1008, some (.row 100 4 (((([] : List GApiObj) ++ a0.L) ++ ([a1] : List GApiObj)).map c_GApiObj)))] (cG [] [2, 3, 4, 6] [] [(28, 1008)] [] []) [q_, q_, q_, qn (.rows (((([] : List GApiObj) ++ a0.L) ++ ([a1] : List GApiObj)).map c_GApiObj)), q_] (aC (ap_obx c_GApiObj hd3) (aC (app_obx c_GApiObj (([] : List GApiObj) ++ a0.L) ([a1] : List GApiObj)) aN)) (by kernel_rfl) ?_
 refine W_z mixed [] [2, 3, 4, 6, 7, 8] [(2, some (.box 42 [aI .i64 a0.Room, aI .i64 a0.Cells, .ref 1008])), k_ 3, k_ 4, k_ 6, k_ 1008] (cB [2, 3, 4, 6] [1008]) [q_, q_, q_] aN (by kernel_rfl) ?_
 refine W_z mixed [] [2, 3, 4, 6, 8] [(2, some (.box 42 [aI .i64 a0.Room, aI .i64 (w64 (a0.Cells + r1_1)), .ref 1008])), k_ 3, k_ 4, k_ 6, k_ 1008] (cB [2, 3, 4, 6] [1008]) (qz 6 []) aN (by kernel_rfl) ?_
 refine W_z mixed [(5, aB true)] [4, 6] [(4, some (.box 23 [aI .u8 a1.Kind, aI .i64 (((([] : List GApiObj) ++ a0.L) ++ ([a1] : List GApiObj)).length : Int), aI .i64 0, aI .i64 0])), (6, some (.box 42 [aI .i64 a0.Room, aI .i64 (w64 (a0.Cells + r1_1)), .ref 100602])), (100602, some (.row 100 4 (((([] : List GApiObj) ++ a0.L) ++ ([a1] : List GApiObj)).map c_GApiObj)))] (cG [] [4, 6] [] [(1008, 100602)] [] []) [q_, q_, q_, qn (.len ((([] : List GApiObj) ++ a0.L) ++ ([a1] : List GApiObj)).length), q_, q_, q_, q_, q_] (aC (len_obx c_GApiObj ((([] : List GApiObj) ++ a0.L) ++ ([a1] : List GApiObj))) aN) (by kernel_rfl) ?_
 refine W_ret ?_
 exact kr [] _ _ (by kernel_rfl) (oinj h)
def R_hindcastref11_H_Str (a0 : GHindcastref11H) (a1 : (List UInt8)) (r : (GApiValue × Bool × GHindcastref11H)) : Prop := FnP Try.prog 87 [e_GHindcastref11H a0, aS a1] (.tup [e_GApiValue r.1, aB r.2.1, e_GHindcastref11H r.2.2])
abbrev hindcastref11_H_Str_e (x : (GApiValue × Bool × GHindcastref11H)) : A := (.tup [e_GApiValue x.1, aB x.2.1, e_GHindcastref11H x.2.2])
noncomputable def hindcastref11_H_Str (a0 : GHindcastref11H) (a1 : (List UInt8)) : Option (GApiValue × Bool × GHindcastref11H) :=
  (if a1 = ([] : List UInt8) then (some ((GApiValue.mk 3 0 0 0), true, a0)) else ((hindcastref11_H_Add a0 (GApiObj.mk 3 0 a1 ([] : List GApiValue))).bind fun (r3_3 : (GApiValue × Bool × GHindcastref11H)) => (some (r3_3.1, r3_3.2.1, r3_3.2.2))))
set_option maxRecDepth 100000 in
theorem hindcastref11_H_Str_ok {a0 : GHindcastref11H} {a1 : (List UInt8)} {r_ : (GApiValue × Bool × GHindcastref11H)} (h : hindcastref11_H_Str a0 a1 = some r_) : R_hindcastref11_H_Str a0 a1 r_ := by
 unfold hindcastref11_H_Str at h
 refine fn_pureZ (enc := hindcastref11_H_Str_e) (by kernel_rfl) fun Q' kr kn => ?_
 refine W_z mixed [(2, .ptr 2 0), (4, .ptr 4 0), (6, .ptr 6 0)] [1] [(2, some (.box 42 [aI .i64 a0.Room, aI .i64 a0.Cells, .t (.sl 4 (a0.L.map c_GApiObj))])), (4, some (.box 23 [aI .u8 0, aI .i64 0, aI .i64 0, aI .i64 0])), (6, some (.box 42 [aI .i64 0, aI .i64 0, aNil]))] (cB [2, 4, 6] []) (qz 4 []) aN (by kernel_rfl) ?_
 refine W_seq ?_
 refine W_z mixed [(8, aB (decide (a1 = ([] : List UInt8))))] [1, 2, 4, 6] [k_ 2, k_ 4, k_ 6] (cB [2, 4, 6] []) [q_, qn (.val (.bool (decide (a1 = ([] : List UInt8)))))] (aC (str_eq_ob (P := Try.prog) 9 a1 ([] : List UInt8)) aN) (by kernel_rfl) ?_
 refine W_cd h (by kernel_rfl) (fun hx1 h => ?_) (fun hx1 h => ?_)
 refine W_z mixed [(5, aB true)] [4, 6] [(4, some (.box 23 [aI .u8 3, aI .i64 0, aI .i64 0, aI .i64 0])), (6, some (.box 42 [aI .i64 a0.Room, aI .i64 a0.Cells, .t (.sl 4 (a0.L.map c_GApiObj))]))] (cB [4, 6] []) (qz 5 []) aN (by kernel_rfl) ?_
 refine W_ret ?_
 exact kr [] _ _ (by kernel_rfl) (oinj h)
 refine W_skip ?_
 obtain ⟨r3_3, hr3_3, h⟩ := bind_ok h
 have hr3_3 := hindcastref11_H_Add_ok hr3_3
 refine W_z mixed [(5, aB r3_3.2.1)] [4, 6] [(4, some (.box 23 [aI .u8 r3_3.1.Kind, aI .i64 r3_3.1.N, aI .i64 r3_3.1.Re, aI .i64 r3_3.1.Im])), (6, some (.box 42 [aI .i64 r3_3.2.2.Room, aI .i64 r3_3.2.2.Cells, .t (.sl 4 (r3_3.2.2.L.map c_GApiObj))]))] (cB [4, 6] []) (q_ :: q_ :: q_ :: qn (.call [(1, 3, 4)] (.tup [e_GApiValue r3_3.1, aB r3_3.2.1, e_GHindcastref11H r3_3.2.2])) :: (qz 6 [])) (aC hr3_3 aN) (by kernel_rfl) ?_
 refine W_ret ?_
 exact kr [] _ _ (by kernel_rfl) (oinj h)
def R_hindcastref13_W_Str (a0 : GHindcastref13W) (a1 : (List UInt8)) (r : (GApiValue × Int × Bool × GHindcastref13W)) : Prop := FnP Try.prog 54 [e_GHindcastref13W a0, aS a1] (.tup [e_GApiValue r.1, aI .i64 r.2.1, aB r.2.2.1, e_GHindcastref13W r.2.2.2])
abbrev hindcastref13_W_Str_e (x : (GApiValue × Int × Bool × GHindcastref13W)) : A := (.tup [e_GApiValue x.1, aI .i64 x.2.1, aB x.2.2.1, e_GHindcastref13W x.2.2.2])
noncomputable def hindcastref13_W_Str (a0 : GHindcastref13W) (a1 : (List UInt8)) : Option (GApiValue × Int × Bool × GHindcastref13W) :=
  ((hindcastref11_H_Str a0.H a1).bind fun (r1_3 : (GApiValue × Bool × GHindcastref11H)) => (if r1_3.2.1 = true then (some (r1_3.1, 0, true, (GHindcastref13W.mk r1_3.2.2 a0.In a0.Draws a0.Read a0.Drawn))) else (some ((GApiValue.mk 0 0 0 0), 4, true, a0))))
set_option maxRecDepth 100000 in
theorem hindcastref13_W_Str_ok {a0 : GHindcastref13W} {a1 : (List UInt8)} {r_ : (GApiValue × Int × Bool × GHindcastref13W)} (h : hindcastref13_W_Str a0 a1 = some r_) : R_hindcastref13_W_Str a0 a1 r_ := by
 unfold hindcastref13_W_Str at h
 refine fn_pureZ (enc := hindcastref13_W_Str_e) (by kernel_rfl) fun Q' kr kn => ?_
 refine W_z mixed [(2, .ptr 2 0), (4, .ptr 4 0), (7, .ptr 7 0)] [1] [(2, some (.box 44 [aI .i64 a0.H.Room, aI .i64 a0.H.Cells, .t (.sl 4 (a0.H.L.map c_GApiObj)), .t (.sl 1 (a0.In.map c_i64)), .t (.sl 1 (a0.Draws.map c_i64)), aI .i64 a0.Read, aI .i64 a0.Drawn])), (4, some (.box 23 [aI .u8 0, aI .i64 0, aI .i64 0, aI .i64 0])), (7, some (.box 44 [aI .i64 0, aI .i64 0, aNil, aNil, aNil, aI .i64 0, aI .i64 0]))] (cB [2, 4, 7] []) (qz 5 []) aN (by kernel_rfl) ?_
 obtain ⟨r1_3, hr1_3, h⟩ := bind_ok h
 have hr1_3 := hindcastref11_H_Str_ok hr1_3
 refine W_z mixed [(8, .ptr 8 0), (9, aB r1_3.2.1), (10, .ptr 10 0)] [2, 4, 7] [k_ 2, k_ 4, k_ 7, (8, some (.box 23 [aI .u8 r1_3.1.Kind, aI .i64 r1_3.1.N, aI .i64 r1_3.1.Re, aI .i64 r1_3.1.Im])), (10, some (.box 42 [aI .i64 r1_3.2.2.Room, aI .i64 r1_3.2.2.Cells, .t (.sl 4 (r1_3.2.2.L.map c_GApiObj))]))] (cB [2, 4, 7, 8, 10] []) (q_ :: q_ :: q_ :: qn (.call [] (.tup [e_GApiValue r1_3.1, aB r1_3.2.1, e_GHindcastref11H r1_3.2.2])) :: (qz 9 [])) (aC hr1_3 aN) (by kernel_rfl) ?_
 refine W_seq ?_
 refine W_z mixed [(20, aB (!r1_3.2.1))] [2, 4, 7, 8, 10] [k_ 2, k_ 4, k_ 7, k_ 8, k_ 10] (cB [2, 4, 7, 8, 10] []) [q_, q_] aN (by kernel_rfl) ?_
 refine W_cbn h (by kernel_rfl) (fun hx1 h => ?_) (fun hx1 h => ?_)
 refine W_skip ?_
 refine W_z mixed [] [2, 4, 7, 8] [(2, some (.box 44 [aI .i64 r1_3.2.2.Room, aI .i64 r1_3.2.2.Cells, .t (.sl 4 (r1_3.2.2.L.map c_GApiObj)), .t (.sl 1 (a0.In.map c_i64)), .t (.sl 1 (a0.Draws.map c_i64)), aI .i64 a0.Read, aI .i64 a0.Drawn])), k_ 4, k_ 7, k_ 8] (cB [2, 4, 7, 8] []) [q_, q_, q_] aN (by kernel_rfl) ?_
 refine W_z mixed [(5, aI .i64 0), (6, aB true)] [4, 7] [(4, some (.box 23 [aI .u8 r1_3.1.Kind, aI .i64 r1_3.1.N, aI .i64 r1_3.1.Re, aI .i64 r1_3.1.Im])), (7, some (.box 44 [aI .i64 r1_3.2.2.Room, aI .i64 r1_3.2.2.Cells, .t (.sl 4 (r1_3.2.2.L.map c_GApiObj)), .t (.sl 1 (a0.In.map c_i64)), .t (.sl 1 (a0.Draws.map c_i64)), aI .i64 a0.Read, aI .i64 a0.Drawn]))] (cB [4, 7] []) (qz 6 []) aN (by kernel_rfl) ?_
 refine W_ret ?_
 exact kr [] _ _ (by kernel_rfl) (oinj h)
 refine W_z mixed [(5, aI .i64 4), (6, aB true)] [4, 7] [k_ 4, (7, some (.box 44 [aI .i64 a0.H.Room, aI .i64 a0.H.Cells, .t (.sl 4 (a0.H.L.map c_GApiObj)), .t (.sl 1 (a0.In.map c_i64)), .t (.sl 1 (a0.Draws.map c_i64)), aI .i64 a0.Read, aI .i64 a0.Drawn]))] (cB [4, 7] []) (qz 6 []) aN (by kernel_rfl) ?_
 refine W_ret ?_
 exact kr [] _ _ (by kernel_rfl) (oinj h)
def R_hindcastref13_W_Bin (a0 : GHindcastref13W) (a1 : Int) (a2 : GApiValue) (a3 : GApiValue) (r : (GApiValue × Int × Bool × GHindcastref13W)) : Prop := FnP Try.prog 18 [e_GHindcastref13W a0, aI .i64 a1, e_GApiValue a2, e_GApiValue a3] (.tup [e_GApiValue r.1, aI .i64 r.2.1, aB r.2.2.1, e_GHindcastref13W r.2.2.2])
abbrev hindcastref13_W_Bin_e (x : (GApiValue × Int × Bool × GHindcastref13W)) : A := (.tup [e_GApiValue x.1, aI .i64 x.2.1, aB x.2.2.1, e_GHindcastref13W x.2.2.2])
noncomputable def hindcastref13_W_Bin_j0 (a1 : Int) (r1_3 : (Bool × Bool)) (a0 : GHindcastref13W) : Option (GApiValue × Int × Bool × GHindcastref13W) :=
  (if r1_3.1 = true then ((hindcastref13_Truth (r1_3.2 == (decide (a1 = 6)))).bind fun (r5_4 : GApiValue) => (some (r5_4, 0, true, a0))) else (some ((GApiValue.mk 0 0 0 0), 0, false, a0)))
noncomputable def hindcastref13_W_Bin_j1 (a1 : Int) (r1_3 : (Bool × Bool)) (a0 : GHindcastref13W) (a2 : GApiValue) (a3 : GApiValue) : Option (GApiValue × Int × Bool × GHindcastref13W) :=
  (if a2.Kind = 3 then (if r1_3.1 = true then (if a1 = 1 then ((hindcastref11_H_Text a0.H a2).bind fun (r18_3 : ((List UInt8) × Bool)) => ((hindcastref11_H_Text a0.H a3).bind fun (r19_3 : ((List UInt8) × Bool)) => (if CatOb r18_3.1 r19_3.1 then ((hindcastref13_W_Str a0 (r18_3.1 ++ r19_3.1)).bind fun (r20_4 : (GApiValue × Int × Bool × GHindcastref13W)) => (some (r20_4.1, r20_4.2.1, r20_4.2.2.1, r20_4.2.2.2))) else none))) else (some ((GApiValue.mk 0 0 0 0), 0, false, a0))) else (some ((GApiValue.mk 0 0 0 0), 0, false, a0))) else (some ((GApiValue.mk 0 0 0 0), 0, false, a0)))
noncomputable def hindcastref13_W_Bin_j2 (a1 : Int) (r1_3 : (Bool × Bool)) (a0 : GHindcastref13W) (a2 : GApiValue) (a3 : GApiValue) : Option (GApiValue × Int × Bool × GHindcastref13W) :=
  (if a2.Kind = 4 then (if a3.Kind = 4 then (if a1 = 1 then ((hindcastref13_comp a2).bind fun (r12_1 : GApiComp) => ((hindcastref13_comp a3).bind fun (r12_3 : GApiComp) => ((hindcastref02_Add r12_1 r12_3).bind fun (r12_4 : GApiComp) => ((hindcastref13_value r12_4).bind fun (r12_5 : GApiValue) => (some (r12_5, 0, true, a0)))))) else (if a1 = 2 then ((hindcastref13_comp a2).bind fun (r14_1 : GApiComp) => ((hindcastref13_comp a3).bind fun (r14_3 : GApiComp) => ((hindcastref02_Neg r14_3).bind fun (r14_4 : GApiComp) => ((hindcastref02_Add r14_1 r14_4).bind fun (r14_5 : GApiComp) => ((hindcastref13_value r14_5).bind fun (r14_6 : GApiValue) => (some (r14_6, 0, true, a0))))))) else (if a1 = 3 then ((hindcastref13_comp a2).bind fun (r16_1 : GApiComp) => ((hindcastref13_comp a3).bind fun (r16_3 : GApiComp) => ((hindcastref02_Mul r16_1 r16_3).bind fun (r16_4 : GApiComp) => ((hindcastref13_value r16_4).bind fun (r16_5 : GApiValue) => (some (r16_5, 0, true, a0)))))) else hindcastref13_W_Bin_j1 a1 r1_3 a0 a2 a3))) else hindcastref13_W_Bin_j1 a1 r1_3 a0 a2 a3) else hindcastref13_W_Bin_j1 a1 r1_3 a0 a2 a3)
def hindcastref13_W_Bin_j0_s (a1 : Int) (r1_3 : (Bool × Bool)) (a0 : GHindcastref13W) : LS := LS.mk 138 [(1, aI .i64 a1), (4, .ptr 4 0), (8, .ptr 8 0), (11, .ptr 11 0), (12, aB r1_3.1), (13, aB r1_3.2)] [(4, some (.box 44 [aI .i64 a0.H.Room, aI .i64 a0.H.Cells, .t (.sl 4 (a0.H.L.map c_GApiObj)), .t (.sl 1 (a0.In.map c_i64)), .t (.sl 1 (a0.Draws.map c_i64)), aI .i64 a0.Read, aI .i64 a0.Drawn])), (8, some (.box 23 [aI .u8 0, aI .i64 0, aI .i64 0, aI .i64 0])), (11, some (.box 44 [aI .i64 0, aI .i64 0, aNil, aNil, aNil, aI .i64 0, aI .i64 0]))]
def hindcastref13_W_Bin_j1_s (a1 : Int) (r1_3 : (Bool × Bool)) (a0 : GHindcastref13W) (a2 : GApiValue) (a3 : GApiValue) : LS := LS.mk 138 [(1, aI .i64 a1), (4, .ptr 4 0), (6, .ptr 6 0), (7, .ptr 7 0), (8, .ptr 8 0), (11, .ptr 11 0), (12, aB r1_3.1)] [(4, some (.box 44 [aI .i64 a0.H.Room, aI .i64 a0.H.Cells, .t (.sl 4 (a0.H.L.map c_GApiObj)), .t (.sl 1 (a0.In.map c_i64)), .t (.sl 1 (a0.Draws.map c_i64)), aI .i64 a0.Read, aI .i64 a0.Drawn])), (6, some (.box 23 [aI .u8 a2.Kind, aI .i64 a2.N, aI .i64 a2.Re, aI .i64 a2.Im])), (7, some (.box 23 [aI .u8 a3.Kind, aI .i64 a3.N, aI .i64 a3.Re, aI .i64 a3.Im])), (8, some (.box 23 [aI .u8 0, aI .i64 0, aI .i64 0, aI .i64 0])), (11, some (.box 44 [aI .i64 0, aI .i64 0, aNil, aNil, aNil, aI .i64 0, aI .i64 0]))]
def hindcastref13_W_Bin_j2_s (a1 : Int) (r1_3 : (Bool × Bool)) (a0 : GHindcastref13W) (a2 : GApiValue) (a3 : GApiValue) : LS := LS.mk 138 [(1, aI .i64 a1), (4, .ptr 4 0), (6, .ptr 6 0), (7, .ptr 7 0), (8, .ptr 8 0), (11, .ptr 11 0), (12, aB r1_3.1)] [(4, some (.box 44 [aI .i64 a0.H.Room, aI .i64 a0.H.Cells, .t (.sl 4 (a0.H.L.map c_GApiObj)), .t (.sl 1 (a0.In.map c_i64)), .t (.sl 1 (a0.Draws.map c_i64)), aI .i64 a0.Read, aI .i64 a0.Drawn])), (6, some (.box 23 [aI .u8 a2.Kind, aI .i64 a2.N, aI .i64 a2.Re, aI .i64 a2.Im])), (7, some (.box 23 [aI .u8 a3.Kind, aI .i64 a3.N, aI .i64 a3.Re, aI .i64 a3.Im])), (8, some (.box 23 [aI .u8 0, aI .i64 0, aI .i64 0, aI .i64 0])), (11, some (.box 44 [aI .i64 0, aI .i64 0, aNil, aNil, aNil, aI .i64 0, aI .i64 0]))]
set_option maxRecDepth 100000 in
theorem hindcastref13_W_Bin_j0_ok (a1 : Int) (r1_3 : (Bool × Bool)) (a0 : GHindcastref13W) (r_ : (GApiValue × Int × Bool × GHindcastref13W)) (Q' : Exit → St → Prop) (kr : KR Try.prog 18 hindcastref13_W_Bin_e r_ .ret Q')  (h : hindcastref13_W_Bin_j0 a1 r1_3 a0 = some r_) : W Try.prog (subC (bodyC Try.prog 18) [1, 1, 0, 1, 0]) (hindcastref13_W_Bin_j0_s a1 r1_3 a0).st Q' := by
 unfold hindcastref13_W_Bin_j0 at h
 refine W_seq ?_
 refine W_z mixed [(35, aB (!r1_3.1))] [1, 4, 8, 11, 13] [k_ 4, k_ 8, k_ 11] (cB [4, 8, 11] []) [q_, q_] aN (by kernel_rfl) ?_
 refine W_cbn h (by kernel_rfl) (fun hx1001 h => ?_) (fun hx1001 h => ?_)
 refine W_skip ?_
 obtain ⟨r5_4, hr5_4, h⟩ := bind_ok h
 have hr5_4 := hindcastref13_Truth_ok hr5_4
 refine W_z mixed [(9, aI .i64 0), (10, aB true)] [8, 11] [(8, some (.box 23 [aI .u8 r5_4.Kind, aI .i64 r5_4.N, aI .i64 r5_4.Re, aI .i64 r5_4.Im])), (11, some (.box 44 [aI .i64 a0.H.Room, aI .i64 a0.H.Cells, .t (.sl 4 (a0.H.L.map c_GApiObj)), .t (.sl 1 (a0.In.map c_i64)), .t (.sl 1 (a0.Draws.map c_i64)), aI .i64 a0.Read, aI .i64 a0.Drawn]))] (cB [8, 11] []) [q_, q_, q_, q_, qn (.call [] (e_GApiValue r5_4)), q_, q_, q_, q_, q_] (aC hr5_4 aN) (by kernel_rfl) ?_
 refine W_ret ?_
 exact kr [] _ _ (by kernel_rfl) (oinj h)
 refine W_z mixed [(9, aI .i64 0), (10, aB false)] [8, 11] [k_ 8, (11, some (.box 44 [aI .i64 a0.H.Room, aI .i64 a0.H.Cells, .t (.sl 4 (a0.H.L.map c_GApiObj)), .t (.sl 1 (a0.In.map c_i64)), .t (.sl 1 (a0.Draws.map c_i64)), aI .i64 a0.Read, aI .i64 a0.Drawn]))] (cB [8, 11] []) (qz 6 []) aN (by kernel_rfl) ?_
 refine W_ret ?_
 exact kr [] _ _ (by kernel_rfl) (oinj h)
set_option maxRecDepth 100000 in
theorem hindcastref13_W_Bin_j1_ok (a1 : Int) (r1_3 : (Bool × Bool)) (a0 : GHindcastref13W) (a2 : GApiValue) (a3 : GApiValue) (r_ : (GApiValue × Int × Bool × GHindcastref13W)) (Q' : Exit → St → Prop) (kr : KR Try.prog 18 hindcastref13_W_Bin_e r_ .ret Q')  (h : hindcastref13_W_Bin_j1 a1 r1_3 a0 a2 a3 = some r_) : W Try.prog (subC (bodyC Try.prog 18) [1, 1, 1, 1, 1]) (hindcastref13_W_Bin_j1_s a1 r1_3 a0 a2 a3).st Q' := by
 unfold hindcastref13_W_Bin_j1 at h
 refine W_seq ?_
 refine if_c h (fun hx2001 h => ?_) (fun hx2001 h => ?_)
 refine ib_c h (fun hx2002 h => ?_) (fun hx2002 h => ?_)
 refine W_z mixed [(112, aB (decide (a1 = 1)))] [4, 6, 7, 8, 11] [k_ 4, k_ 6, k_ 7, k_ 8, k_ 11] (cB [4, 6, 7, 8, 11] []) [q_, q_, q_, q_, qt0, qn (.dec true), q_, qt0, qt0, qn (.dec true)] (aC hx2001 (aC hx2001 (aC hx2002 (aC hx2002 (aC hx2002 aN))))) (by kernel_rfl) ?_
 refine W_cd h (by kernel_rfl) (fun hx2003 h => ?_) (fun hx2003 h => ?_)
 obtain ⟨r18_3, hr18_3, h⟩ := bind_ok h
 have hr18_3 := hindcastref11_H_Text_ok hr18_3
 refine W_z mixed [(17, aS r18_3.1)] [4, 7, 8, 11] [k_ 4, k_ 7, k_ 8, k_ 11] (cB [4, 7, 8, 11] []) [q_, q_, q_, qn (.call [] (.tup [aS r18_3.1, aB r18_3.2])), q_, q_, q_, q_, q_] (aC hr18_3 aN) (by kernel_rfl) ?_
 obtain ⟨r19_3, hr19_3, h⟩ := bind_ok h
 have hr19_3 := hindcastref11_H_Text_ok hr19_3
 refine W_z mixed [(19, aS r19_3.1)] [4, 8, 11, 17] [k_ 4, k_ 8, k_ 11] (cB [4, 8, 11] []) [q_, q_, q_, qn (.call [] (.tup [aS r19_3.1, aB r19_3.2])), q_, q_, q_, q_, q_] (aC hr19_3 aN) (by kernel_rfl) ?_
 obtain ⟨hd2004, h⟩ := ite_ok h
 obtain ⟨r20_4, hr20_4, h⟩ := bind_ok h
 have hr20_4 := hindcastref13_W_Str_ok hr20_4
 refine W_z mixed [(9, aI .i64 r20_4.2.1), (10, aB r20_4.2.2.1)] [8, 11] [(8, some (.box 23 [aI .u8 r20_4.1.Kind, aI .i64 r20_4.1.N, aI .i64 r20_4.1.Re, aI .i64 r20_4.1.Im])), (11, some (.box 44 [aI .i64 r20_4.2.2.2.H.Room, aI .i64 r20_4.2.2.2.H.Cells, .t (.sl 4 (r20_4.2.2.2.H.L.map c_GApiObj)), .t (.sl 1 (r20_4.2.2.2.In.map c_i64)), .t (.sl 1 (r20_4.2.2.2.Draws.map c_i64)), aI .i64 r20_4.2.2.2.Read, aI .i64 r20_4.2.2.2.Drawn]))] (cB [8, 11] []) (q_ :: q_ :: q_ :: qn (.val (.string (mkS (r18_3.1 ++ r19_3.1)))) :: qn (.call [] (.tup [e_GApiValue r20_4.1, aI .i64 r20_4.2.1, aB r20_4.2.2.1, e_GHindcastref13W r20_4.2.2.2])) :: (qz 8 [])) (aC (show BinOb Try.prog .add 9 (.string (mkS r18_3.1)) (.string (mkS r19_3.1)) (.string (mkS (r18_3.1 ++ r19_3.1))) from cat_ob _ hd2004) (aC hr20_4 aN)) (by kernel_rfl) ?_
 refine W_ret ?_
 exact kr [] _ _ (by kernel_rfl) (oinj h)
 refine W_skip ?_
 refine W_z mixed [(9, aI .i64 0), (10, aB false)] [8, 11] [k_ 8, (11, some (.box 44 [aI .i64 a0.H.Room, aI .i64 a0.H.Cells, .t (.sl 4 (a0.H.L.map c_GApiObj)), .t (.sl 1 (a0.In.map c_i64)), .t (.sl 1 (a0.Draws.map c_i64)), aI .i64 a0.Read, aI .i64 a0.Drawn]))] (cB [8, 11] []) (qz 6 []) aN (by kernel_rfl) ?_
 refine W_ret ?_
 exact kr [] _ _ (by kernel_rfl) (oinj h)
 refine W_z mixed [(112, aB false)] [4, 6, 7, 8, 11] [k_ 4, k_ 6, k_ 7, k_ 8, k_ 11] (cB [4, 6, 7, 8, 11] []) [q_, q_, q_, q_, qt0, qn (.dec true), q_, qf0, qf0, qn (.dec false)] (aC hx2001 (aC hx2001 (aC hx2002 (aC hx2002 (aC hx2002 aN))))) (by kernel_rfl) ?_
 refine W_cf (e := false) rfl (by kernel_rfl) ?_
 refine W_skip ?_
 refine W_z mixed [(9, aI .i64 0), (10, aB false)] [8, 11] [k_ 8, (11, some (.box 44 [aI .i64 a0.H.Room, aI .i64 a0.H.Cells, .t (.sl 4 (a0.H.L.map c_GApiObj)), .t (.sl 1 (a0.In.map c_i64)), .t (.sl 1 (a0.Draws.map c_i64)), aI .i64 a0.Read, aI .i64 a0.Drawn]))] (cB [8, 11] []) (qz 6 []) aN (by kernel_rfl) ?_
 refine W_ret ?_
 exact kr [] _ _ (by kernel_rfl) (oinj h)
 refine W_z mixed [(112, aB false)] [4, 6, 7, 8, 11] [k_ 4, k_ 6, k_ 7, k_ 8, k_ 11] (cB [4, 6, 7, 8, 11] []) [q_, q_, q_, q_, qf0, qn (.dec false), q_, q_, q_, q_] (aC hx2001 (aC hx2001 aN)) (by kernel_rfl) ?_
 refine W_cf (e := false) rfl (by kernel_rfl) ?_
 refine W_skip ?_
 refine W_z mixed [(9, aI .i64 0), (10, aB false)] [8, 11] [k_ 8, (11, some (.box 44 [aI .i64 a0.H.Room, aI .i64 a0.H.Cells, .t (.sl 4 (a0.H.L.map c_GApiObj)), .t (.sl 1 (a0.In.map c_i64)), .t (.sl 1 (a0.Draws.map c_i64)), aI .i64 a0.Read, aI .i64 a0.Drawn]))] (cB [8, 11] []) (qz 6 []) aN (by kernel_rfl) ?_
 refine W_ret ?_
 exact kr [] _ _ (by kernel_rfl) (oinj h)
set_option maxRecDepth 100000 in
theorem hindcastref13_W_Bin_j2_ok (a1 : Int) (r1_3 : (Bool × Bool)) (a0 : GHindcastref13W) (a2 : GApiValue) (a3 : GApiValue) (r_ : (GApiValue × Int × Bool × GHindcastref13W)) (Q' : Exit → St → Prop) (kr : KR Try.prog 18 hindcastref13_W_Bin_e r_ .ret Q')  (h : hindcastref13_W_Bin_j2 a1 r1_3 a0 a2 a3 = some r_) : W Try.prog (subC (bodyC Try.prog 18) [1, 1, 1, 1]) (hindcastref13_W_Bin_j2_s a1 r1_3 a0 a2 a3).st Q' := by
 unfold hindcastref13_W_Bin_j2 at h
 refine W_seq ?_
 refine if_c h (fun hx3001 h => ?_) (fun hx3001 h => ?_)
 refine W_z mixed [(73, aB (decide (a3.Kind = 4)))] [1, 4, 6, 7, 8, 11, 12] [k_ 4, k_ 6, k_ 7, k_ 8, k_ 11] (cB [4, 6, 7, 8, 11] []) [q_, q_, q_, q_, qt0, qt0, qt0, qn (.dec true)] (aC hx3001 (aC hx3001 (aC hx3001 (aC hx3001 aN)))) (by kernel_rfl) ?_
 refine W_cd h (by kernel_rfl) (fun hx3002 h => ?_) (fun hx3002 h => ?_)
 refine W_z mixed [(74, aI .i64 a1)] [1, 4, 6, 7, 8, 11, 12] [k_ 4, k_ 6, k_ 7, k_ 8, k_ 11] (cB [4, 6, 7, 8, 11] []) [q_] aN (by kernel_rfl) ?_
 refine W_block ?_
 refine W_z mixed [(75, aB (decide (a1 = 1)))] [1, 4, 6, 7, 8, 11, 12, 74] [k_ 4, k_ 6, k_ 7, k_ 8, k_ 11] (cB [4, 6, 7, 8, 11] []) [q_, q_] aN (by kernel_rfl) ?_
 refine W_cd h (by kernel_rfl) (fun hx3003 h => ?_) (fun hx3003 h => ?_)
 obtain ⟨r12_1, hr12_1, h⟩ := bind_ok h
 have hr12_1 := hindcastref13_comp_ok hr12_1
 obtain ⟨r12_3, hr12_3, h⟩ := bind_ok h
 have hr12_3 := hindcastref13_comp_ok hr12_3
 obtain ⟨r12_4, hr12_4, h⟩ := bind_ok h
 have hr12_4 := hindcastref02_Add_ok hr12_4
 obtain ⟨r12_5, hr12_5, h⟩ := bind_ok h
 have hr12_5 := hindcastref13_value_ok hr12_5
 refine W_z mixed [(9, aI .i64 0), (10, aB true)] [8, 11] [(8, some (.box 23 [aI .u8 r12_5.Kind, aI .i64 r12_5.N, aI .i64 r12_5.Re, aI .i64 r12_5.Im])), (11, some (.box 44 [aI .i64 a0.H.Room, aI .i64 a0.H.Cells, .t (.sl 4 (a0.H.L.map c_GApiObj)), .t (.sl 1 (a0.In.map c_i64)), .t (.sl 1 (a0.Draws.map c_i64)), aI .i64 a0.Read, aI .i64 a0.Drawn]))] (cB [8, 11] []) [q_, qn (.call [] (e_GApiComp r12_1)), q_, qn (.call [] (e_GApiComp r12_3)), qn (.call [] (e_GApiComp r12_4)), qn (.call [] (e_GApiValue r12_5)), q_, q_, q_, q_, q_] (aC hr12_1 (aC hr12_3 (aC hr12_4 (aC hr12_5 aN)))) (by kernel_rfl) ?_
 refine W_ret ?_
 exact kr [] _ _ (by kernel_rfl) (oinj h)
 refine W_z mixed [(84, aB (decide (a1 = 2)))] [1, 4, 6, 7, 8, 11, 12, 74] [k_ 4, k_ 6, k_ 7, k_ 8, k_ 11] (cB [4, 6, 7, 8, 11] []) [q_, q_] aN (by kernel_rfl) ?_
 refine W_cd h (by kernel_rfl) (fun hx3004 h => ?_) (fun hx3004 h => ?_)
 obtain ⟨r14_1, hr14_1, h⟩ := bind_ok h
 have hr14_1 := hindcastref13_comp_ok hr14_1
 obtain ⟨r14_3, hr14_3, h⟩ := bind_ok h
 have hr14_3 := hindcastref13_comp_ok hr14_3
 obtain ⟨r14_4, hr14_4, h⟩ := bind_ok h
 have hr14_4 := hindcastref02_Neg_ok hr14_4
 obtain ⟨r14_5, hr14_5, h⟩ := bind_ok h
 have hr14_5 := hindcastref02_Add_ok hr14_5
 obtain ⟨r14_6, hr14_6, h⟩ := bind_ok h
 have hr14_6 := hindcastref13_value_ok hr14_6
 refine W_z mixed [(9, aI .i64 0), (10, aB true)] [8, 11] [(8, some (.box 23 [aI .u8 r14_6.Kind, aI .i64 r14_6.N, aI .i64 r14_6.Re, aI .i64 r14_6.Im])), (11, some (.box 44 [aI .i64 a0.H.Room, aI .i64 a0.H.Cells, .t (.sl 4 (a0.H.L.map c_GApiObj)), .t (.sl 1 (a0.In.map c_i64)), .t (.sl 1 (a0.Draws.map c_i64)), aI .i64 a0.Read, aI .i64 a0.Drawn]))] (cB [8, 11] []) [q_, qn (.call [] (e_GApiComp r14_1)), q_, qn (.call [] (e_GApiComp r14_3)), qn (.call [] (e_GApiComp r14_4)), qn (.call [] (e_GApiComp r14_5)), qn (.call [] (e_GApiValue r14_6)), q_, q_, q_, q_, q_] (aC hr14_1 (aC hr14_3 (aC hr14_4 (aC hr14_5 (aC hr14_6 aN))))) (by kernel_rfl) ?_
 refine W_ret ?_
 exact kr [] _ _ (by kernel_rfl) (oinj h)
 refine W_z mixed [(94, aB (decide (a1 = 3)))] [1, 4, 6, 7, 8, 11, 12] [k_ 4, k_ 6, k_ 7, k_ 8, k_ 11] (cB [4, 6, 7, 8, 11] []) [q_, q_] aN (by kernel_rfl) ?_
 refine W_cd h (by kernel_rfl) (fun hx3005 h => ?_) (fun hx3005 h => ?_)
 obtain ⟨r16_1, hr16_1, h⟩ := bind_ok h
 have hr16_1 := hindcastref13_comp_ok hr16_1
 obtain ⟨r16_3, hr16_3, h⟩ := bind_ok h
 have hr16_3 := hindcastref13_comp_ok hr16_3
 obtain ⟨r16_4, hr16_4, h⟩ := bind_ok h
 have hr16_4 := hindcastref02_Mul_ok hr16_4
 obtain ⟨r16_5, hr16_5, h⟩ := bind_ok h
 have hr16_5 := hindcastref13_value_ok hr16_5
 refine W_z mixed [(9, aI .i64 0), (10, aB true)] [8, 11] [(8, some (.box 23 [aI .u8 r16_5.Kind, aI .i64 r16_5.N, aI .i64 r16_5.Re, aI .i64 r16_5.Im])), (11, some (.box 44 [aI .i64 a0.H.Room, aI .i64 a0.H.Cells, .t (.sl 4 (a0.H.L.map c_GApiObj)), .t (.sl 1 (a0.In.map c_i64)), .t (.sl 1 (a0.Draws.map c_i64)), aI .i64 a0.Read, aI .i64 a0.Drawn]))] (cB [8, 11] []) [q_, qn (.call [] (e_GApiComp r16_1)), q_, qn (.call [] (e_GApiComp r16_3)), qn (.call [] (e_GApiComp r16_4)), qn (.call [] (e_GApiValue r16_5)), q_, q_, q_, q_, q_] (aC hr16_1 (aC hr16_3 (aC hr16_4 (aC hr16_5 aN)))) (by kernel_rfl) ?_
 refine W_ret ?_
 exact kr [] _ _ (by kernel_rfl) (oinj h)
 refine W_skip ?_
 exact W_conv (cB [4, 6, 7, 8, 11] [] [1, 4, 6, 7, 8, 11, 12]) (by kernel_rfl) (hindcastref13_W_Bin_j1_ok a1 r1_3 a0 a2 a3 r_ _ kr h)
 refine W_skip ?_
 exact W_conv (cB [4, 6, 7, 8, 11] [] [1, 4, 6, 7, 8, 11, 12]) (by kernel_rfl) (hindcastref13_W_Bin_j1_ok a1 r1_3 a0 a2 a3 r_ _ kr h)
 refine W_z mixed [(73, aB false)] [1, 4, 6, 7, 8, 11, 12] [k_ 4, k_ 6, k_ 7, k_ 8, k_ 11] (cB [4, 6, 7, 8, 11] []) [q_, q_, q_, q_, qf0, qf0, qf0, qn (.dec false)] (aC hx3001 (aC hx3001 (aC hx3001 (aC hx3001 aN)))) (by kernel_rfl) ?_
 refine W_cf (e := false) rfl (by kernel_rfl) ?_
 refine W_skip ?_
 exact W_conv (cB [4, 6, 7, 8, 11] [] [1, 4, 6, 7, 8, 11, 12]) (by kernel_rfl) (hindcastref13_W_Bin_j1_ok a1 r1_3 a0 a2 a3 r_ _ kr h)
noncomputable def hindcastref13_W_Bin (a0 : GHindcastref13W) (a1 : Int) (a2 : GApiValue) (a3 : GApiValue) : Option (GApiValue × Int × Bool × GHindcastref13W) :=
  ((hindcastref13_W_equal a0 a2 a3).bind fun (r1_3 : (Bool × Bool)) => (if a1 = 6 then hindcastref13_W_Bin_j0 a1 r1_3 a0 else (if a1 = 7 then hindcastref13_W_Bin_j0 a1 r1_3 a0 else (if a2.Kind = 1 then (if a3.Kind = 1 then ((hindcastref13_numbers a1 a2.N a3.N).bind fun (r7_5 : (GApiValue × Int × Bool)) => (some (r7_5.1, r7_5.2.1, r7_5.2.2, a0))) else hindcastref13_W_Bin_j2 a1 r1_3 a0 a2 a3) else hindcastref13_W_Bin_j2 a1 r1_3 a0 a2 a3))))
set_option maxRecDepth 100000 in
theorem hindcastref13_W_Bin_ok {a0 : GHindcastref13W} {a1 : Int} {a2 : GApiValue} {a3 : GApiValue} {r_ : (GApiValue × Int × Bool × GHindcastref13W)} (h : hindcastref13_W_Bin a0 a1 a2 a3 = some r_) : R_hindcastref13_W_Bin a0 a1 a2 a3 r_ := by
 unfold hindcastref13_W_Bin at h
 refine fn_pureZ (enc := hindcastref13_W_Bin_e) (by kernel_rfl) fun Q' kr kn => ?_
 refine W_z mixed [(4, .ptr 4 0), (6, .ptr 6 0), (7, .ptr 7 0), (8, .ptr 8 0), (11, .ptr 11 0)] [1] [(4, some (.box 44 [aI .i64 a0.H.Room, aI .i64 a0.H.Cells, .t (.sl 4 (a0.H.L.map c_GApiObj)), .t (.sl 1 (a0.In.map c_i64)), .t (.sl 1 (a0.Draws.map c_i64)), aI .i64 a0.Read, aI .i64 a0.Drawn])), (6, some (.box 23 [aI .u8 a2.Kind, aI .i64 a2.N, aI .i64 a2.Re, aI .i64 a2.Im])), (7, some (.box 23 [aI .u8 a3.Kind, aI .i64 a3.N, aI .i64 a3.Re, aI .i64 a3.Im])), (8, some (.box 23 [aI .u8 0, aI .i64 0, aI .i64 0, aI .i64 0])), (11, some (.box 44 [aI .i64 0, aI .i64 0, aNil, aNil, aNil, aI .i64 0, aI .i64 0]))] (cB [4, 6, 7, 8, 11] []) (qz 7 []) aN (by kernel_rfl) ?_
 obtain ⟨r1_3, hr1_3, h⟩ := bind_ok h
 have hr1_3 := hindcastref13_W_equal_ok hr1_3
 refine W_z mixed [(12, aB r1_3.1), (13, aB r1_3.2)] [1, 4, 6, 7, 8, 11] [k_ 4, k_ 6, k_ 7, k_ 8, k_ 11] (cB [4, 6, 7, 8, 11] []) [q_, q_, q_, qn (.call [] (.tup [aB r1_3.1, aB r1_3.2])), q_, q_, q_, q_, q_] (aC hr1_3 aN) (by kernel_rfl) ?_
 refine W_seq ?_
 refine if_c h (fun hx1 h => ?_) (fun hx1 h => ?_)
 refine W_z mixed [(33, aB true)] [1, 4, 6, 7, 8, 11, 12, 13] [k_ 4, k_ 6, k_ 7, k_ 8, k_ 11] (cB [4, 6, 7, 8, 11] []) [q_, q_, q_, qt0, qt0, qn (.dec true)] (aC hx1 (aC hx1 (aC hx1 aN))) (by kernel_rfl) ?_
 refine W_ct (e := true) rfl (by kernel_rfl) ?_
 exact W_conv (cB [4, 8, 11] [] [1, 4, 8, 11, 12, 13]) (by kernel_rfl) (hindcastref13_W_Bin_j0_ok a1 r1_3 a0 r_ _ kr h)
 refine W_z mixed [(33, aB (decide (a1 = 7)))] [1, 4, 6, 7, 8, 11, 12, 13] [k_ 4, k_ 6, k_ 7, k_ 8, k_ 11] (cB [4, 6, 7, 8, 11] []) [q_, q_, q_, qf0, qf0, qn (.dec false)] (aC hx1 (aC hx1 (aC hx1 aN))) (by kernel_rfl) ?_
 refine W_cd h (by kernel_rfl) (fun hx2 h => ?_) (fun hx2 h => ?_)
 exact W_conv (cB [4, 8, 11] [] [1, 4, 8, 11, 12, 13]) (by kernel_rfl) (hindcastref13_W_Bin_j0_ok a1 r1_3 a0 r_ _ kr h)
 refine W_skip ?_
 refine W_seq ?_
 refine if_c h (fun hx3 h => ?_) (fun hx3 h => ?_)
 refine W_z mixed [(51, aB (decide (a3.Kind = 1)))] [1, 4, 6, 7, 8, 11, 12] [k_ 4, k_ 6, k_ 7, k_ 8, k_ 11] (cB [4, 6, 7, 8, 11] []) [q_, q_, q_, q_, qt0, qt0, qt0, qn (.dec true)] (aC hx3 (aC hx3 (aC hx3 (aC hx3 aN)))) (by kernel_rfl) ?_
 refine W_cd h (by kernel_rfl) (fun hx4 h => ?_) (fun hx4 h => ?_)
 obtain ⟨r7_5, hr7_5, h⟩ := bind_ok h
 have hr7_5 := hindcastref13_numbers_ok hr7_5
 refine W_z mixed [(14, .ptr 14 0), (15, aI .i64 r7_5.2.1), (16, aB r7_5.2.2)] [4, 8, 11] [k_ 4, k_ 8, k_ 11, (14, some (.box 23 [aI .u8 r7_5.1.Kind, aI .i64 r7_5.1.N, aI .i64 r7_5.1.Re, aI .i64 r7_5.1.Im]))] (cB [4, 8, 11, 14] []) (q_ :: q_ :: q_ :: q_ :: q_ :: qn (.call [] (.tup [e_GApiValue r7_5.1, aI .i64 r7_5.2.1, aB r7_5.2.2])) :: (qz 8 [])) (aC hr7_5 aN) (by kernel_rfl) ?_
 refine W_z mixed [(9, aI .i64 r7_5.2.1), (10, aB r7_5.2.2)] [8, 11] [(8, some (.box 23 [aI .u8 r7_5.1.Kind, aI .i64 r7_5.1.N, aI .i64 r7_5.1.Re, aI .i64 r7_5.1.Im])), (11, some (.box 44 [aI .i64 a0.H.Room, aI .i64 a0.H.Cells, .t (.sl 4 (a0.H.L.map c_GApiObj)), .t (.sl 1 (a0.In.map c_i64)), .t (.sl 1 (a0.Draws.map c_i64)), aI .i64 a0.Read, aI .i64 a0.Drawn]))] (cB [8, 11] []) (qz 8 []) aN (by kernel_rfl) ?_
 refine W_ret ?_
 exact kr [] _ _ (by kernel_rfl) (oinj h)
 refine W_skip ?_
 exact W_conv (cB [4, 6, 7, 8, 11] [] [1, 4, 6, 7, 8, 11, 12]) (by kernel_rfl) (hindcastref13_W_Bin_j2_ok a1 r1_3 a0 a2 a3 r_ _ kr h)
 refine W_z mixed [(51, aB false)] [1, 4, 6, 7, 8, 11, 12] [k_ 4, k_ 6, k_ 7, k_ 8, k_ 11] (cB [4, 6, 7, 8, 11] []) [q_, q_, q_, q_, qf0, qf0, qf0, qn (.dec false)] (aC hx3 (aC hx3 (aC hx3 (aC hx3 aN)))) (by kernel_rfl) ?_
 refine W_cf (e := false) rfl (by kernel_rfl) ?_
 refine W_skip ?_
 exact W_conv (cB [4, 6, 7, 8, 11] [] [1, 4, 6, 7, 8, 11, 12]) (by kernel_rfl) (hindcastref13_W_Bin_j2_ok a1 r1_3 a0 a2 a3 r_ _ kr h)
end Go.Proofs.Ytmffhifkdbfbfaa
