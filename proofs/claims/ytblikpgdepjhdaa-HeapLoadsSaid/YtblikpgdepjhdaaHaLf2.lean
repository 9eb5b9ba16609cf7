/- Parts of the proof. -/
import Derived.Test.YtblikpgdepjhdaaHaLf1
namespace Go.Proofs.Ytblikpgdepjhdaa
open Go.RowKit
set_option linter.unusedVariables false
set_option maxRecDepth 100000
set_option maxHeartbeats 4000000
inductive l11_HeapRoom_C where
  | l0 (a0 : Int) (a1 : (List GL11Op)) (v0_8_0 : Int) (b0_7 : GR11H) (o0_1005 : GHeapHeap)
  | j1 (o0_1005 : GHeapHeap)
  | l2 (v2_11_0 : Int) (v2_13_0 : Int) (o0_1005 : GHeapHeap) (r18_1 : (List GApiObj))
  | j3 (v2_11_0 : Int) (o0_1005 : GHeapHeap)
def R_r11_May (a0 : GApiObj) (r : Bool) : Prop := FnP Try.prog 33 [e_GApiObj a0] (aB r)
abbrev r11_May_e (x : Bool) : A := (aB x)
noncomputable def r11_May (a0 : GApiObj) : Option Bool :=
  (if a0.Kind = 3 then (if (a0.Text.length : Int) > 0 then (if (a0.Vals.length : Int) = 0 then (some (decide (a0.Of = 0))) else (some false)) else (some false)) else (if a0.Kind = 6 then (if a0.Text = ([] : List UInt8) then (some (decide (a0.Of ≥ 0))) else (some false)) else (if a0.Kind = 7 then (if a0.Text = ([] : List UInt8) then (some (decide (a0.Of ≥ 0))) else (some false)) else (some false))))
theorem r11_May_ok {a0 : GApiObj} {r_ : Bool} (h : r11_May a0 = some r_) : R_r11_May a0 r_ := by
 unfold r11_May at h
 refine fn_pureZ (enc := r11_May_e) (by kernel_rfl) fun Q' kr kn => ?_
 refine Wd [(1, .ptr 1 0)] [0] [(1, .box 27 (b_GApiObj a0))] [] [q_, q_] aN ?_
 refine W_seq ?_
 refine Wd [(5, aB (decide (a0.Kind = 3)))] [] [] [] [q_, q_, q_] aN ?_
 refine W_cd h (by kernel_rfl) (fun hx1 h => ?_) (fun hx1 h => ?_)
 refine if_c h (fun hx2 h => ?_) (fun hx2 h => ?_)
 refine if_c h (fun hx3 h => ?_) (fun hx3 h => ?_)
 refine Wd [(2, aB (decide (a0.Of = 0)))] [1, 5] [] [1] [q_, q_, q_, q_, q_, qt0, qt0, qt (.len a0.Vals.length), qt0, qn (.dec true), q_, qt0, qt0, qt0, qn (.dec true), q_] (aC hx2 (aC hx2 (aC hx2 (aC (len_obx c_GApiValue a0.Vals) (aC hx2 (aC hx2 (aC hx3 (aC hx3 (aC hx3 (aC hx3 aN)))))))))) ?_
 refine W_ret ?_
 exact kre kr [] h
 refine Wd [(2, aB false)] [1, 5] [] [1] [q_, q_, q_, q_, q_, qt0, qt0, qt (.len a0.Vals.length), qt0, qn (.dec true), q_, qf0, qf0, qf0, qn (.dec false), q_] (aC hx2 (aC hx2 (aC hx2 (aC (len_obx c_GApiValue a0.Vals) (aC hx2 (aC hx2 (aC hx3 (aC hx3 (aC hx3 (aC hx3 aN)))))))))) ?_
 refine W_ret ?_
 exact kre kr [] h
 refine Wd [(2, aB false)] [1, 5] [] [1] (q_ :: q_ :: q_ :: q_ :: q_ :: qf0 :: qf0 :: qf0 :: qf0 :: qn (.dec false) :: (qz 6 [])) (aC hx2 (aC hx2 (aC hx2 (aC hx2 (aC hx2 aN))))) ?_
 refine W_ret ?_
 exact kre kr [] h
 refine W_skip ?_
 refine if_c h (fun hx4 h => ?_) (fun hx4 h => ?_)
 refine if_c h (fun hx5 h => ?_) (fun hx5 h => ?_)
 refine Wd [(2, aB (decide (a0.Of ≥ 0)))] [1, 5] [] [1] [q_, q_, q_, q_, qt0, qt0, qt0, qn (.dec true), q_, q_, q_, qn (.val (.bool (decide (a0.Text = ([] : List UInt8))))), q_, q_, qt0, qt0, qt0, qn (.dec true), q_] (aC hx4 (aC hx4 (aC hx4 (aC hx4 (aC (str_eq_ob (P := Try.prog) 9 a0.Text ([] : List UInt8)) (aC hx5 (aC hx5 (aC hx5 (aC hx5 aN))))))))) ?_
 refine W_ret ?_
 exact kre kr [] h
 refine Wd [(2, aB false)] [1, 5] [] [1] [q_, q_, q_, q_, qt0, qt0, qt0, qn (.dec true), q_, q_, q_, qn (.val (.bool (decide (a0.Text = ([] : List UInt8))))), q_, q_, qf0, qf0, qf0, qn (.dec false), q_] (aC hx4 (aC hx4 (aC hx4 (aC hx4 (aC (str_eq_ob (P := Try.prog) 9 a0.Text ([] : List UInt8)) (aC hx5 (aC hx5 (aC hx5 (aC hx5 aN))))))))) ?_
 refine W_ret ?_
 exact kre kr [] h
 refine if_c h (fun hx6 h => ?_) (fun hx6 h => ?_)
 refine if_c h (fun hx7 h => ?_) (fun hx7 h => ?_)
 refine Wd [(2, aB (decide (a0.Of ≥ 0)))] [1, 5] [] [1] [q_, q_, q_, q_, qf0, qf0, qf0, qn (.dec false), q_, qt0, qt0, qt (.val (.bool (decide (a0.Text = ([] : List UInt8))))), qn (.dec true), q_, qt0, qt0, qt0, qn (.dec true), q_] (aC hx4 (aC hx4 (aC hx4 (aC hx4 (aC hx6 (aC hx6 (aC hx6 (aC (str_eq_ob (P := Try.prog) 9 a0.Text ([] : List UInt8)) (aC hx6 (aC hx7 (aC hx7 (aC hx7 (aC hx7 aN))))))))))))) ?_
 refine W_ret ?_
 exact kre kr [] h
 refine Wd [(2, aB false)] [1, 5] [] [1] [q_, q_, q_, q_, qf0, qf0, qf0, qn (.dec false), q_, qt0, qt0, qt (.val (.bool (decide (a0.Text = ([] : List UInt8))))), qn (.dec true), q_, qf0, qf0, qf0, qn (.dec false), q_] (aC hx4 (aC hx4 (aC hx4 (aC hx4 (aC hx6 (aC hx6 (aC hx6 (aC (str_eq_ob (P := Try.prog) 9 a0.Text ([] : List UInt8)) (aC hx6 (aC hx7 (aC hx7 (aC hx7 (aC hx7 aN))))))))))))) ?_
 refine W_ret ?_
 exact kre kr [] h
 refine Wd [(2, aB false)] [1, 5] [] [1] (q_ :: q_ :: q_ :: q_ :: qf0 :: qf0 :: qf0 :: qn (.dec false) :: q_ :: qf0 :: qf0 :: qf0 :: qn (.dec false) :: (qz 6 [])) (aC hx4 (aC hx4 (aC hx4 (aC hx4 (aC hx6 (aC hx6 (aC hx6 (aC hx6 aN)))))))) ?_
 refine W_ret ?_
 exact kre kr [] h
def RI_r11_Load (a0 : Int) (a1 : (List GApiObj)) (r : (GR11H × Int)) : Prop := FnIO Try.prog 12 [aI .i64 a0, .t (.sl 4 (a1.map c_GApiObj))] [] (.tup [.agg [aI .i64 r.1.Room, aI .i64 r.1.Cells, .ref 800002], aI .i64 r.2]) [(800002, .row 27 4 (r.1.L.map c_GApiObj))]
def R_r11_Load (a0 : Int) (a1 : (List GApiObj)) (r : (GR11H × Int)) : Prop := FnP Try.prog 12 [aI .i64 a0, .t (.sl 4 (a1.map c_GApiObj))] (.tup [e_GR11H r.1, aI .i64 r.2])
inductive r11_Load_C where
  | l0 (a0 : Int) (a1 : (List GApiObj)) (v0_20_0 : Int)
  | j1 (a0 : Int) (a1 : (List GApiObj))
  | l2 (a0 : Int) (a1 : (List GApiObj)) (v2_33_0 : Int) (m2_6_1 : Int)
  | j3 (a1 : (List GApiObj)) (a0 : Int) (m2_6_1 : Int)
abbrev r11_Load_C_T : r11_Load_C → Type := fun _ => (GR11H × Int)
noncomputable def r11_Load_l0_b (g : (i : r11_Load_C) → Option (r11_Load_C_T i)) (a0 : Int) (a1 : (List GApiObj)) (v0_20_0 : Int) : Option (GR11H × Int) :=
  (if v0_20_0 < (a1.length : Int) then ((getI a1 v0_20_0).bind fun (x7_2 : GApiObj) => ((r11_May x7_2).bind fun (r7_4 : Bool) => (if r7_4 = true then g (.l0 a0 a1 (w64 (v0_20_0 + 1))) else (some ((GR11H.mk 0 0 ([] : List GApiObj)), 1))))) else g (.j1 a0 a1))
noncomputable def r11_Load_j1_b (g : (i : r11_Load_C) → Option (r11_Load_C_T i)) (a0 : Int) (a1 : (List GApiObj)) : Option (GR11H × Int) :=
  g (.l2 a0 a1 0 0)
noncomputable def r11_Load_l2_b (g : (i : r11_Load_C) → Option (r11_Load_C_T i)) (a0 : Int) (a1 : (List GApiObj)) (v2_33_0 : Int) (m2_6_1 : Int) : Option (GR11H × Int) :=
  (if v2_33_0 < (a1.length : Int) then ((getI a1 v2_33_0).bind fun (x13_4 : GApiObj) => ((r11_Cost x13_4).bind fun (r13_6 : Int) => (if (w64 (m2_6_1 + r13_6)) > a0 then (some ((GR11H.mk 0 0 ([] : List GApiObj)), 21)) else g (.l2 a0 a1 (w64 (v2_33_0 + 1)) (w64 (m2_6_1 + r13_6)))))) else g (.j3 a1 a0 m2_6_1))
noncomputable def r11_Load_j3_b (g : (i : r11_Load_C) → Option (r11_Load_C_T i)) (a1 : (List GApiObj)) (a0 : Int) (m2_6_1 : Int) : Option (GR11H × Int) :=
  ((appD 56 ([] : List GApiObj) a1).bind fun (z17_3 : List GApiObj) => (some ((GR11H.mk a0 m2_6_1 z17_3), 0)))
noncomputable def r11_Load_B (g : (i : r11_Load_C) → Option (r11_Load_C_T i)) : (i : r11_Load_C) → Option (r11_Load_C_T i)
  | .l0 a0 a1 v0_20_0 => r11_Load_l0_b g a0 a1 v0_20_0
  | .j1 a0 a1 => r11_Load_j1_b g a0 a1
  | .l2 a0 a1 v2_33_0 m2_6_1 => r11_Load_l2_b g a0 a1 v2_33_0 m2_6_1
  | .j3 a1 a0 m2_6_1 => r11_Load_j3_b g a1 a0 m2_6_1
theorem r11_Load_B_fin (i : r11_Load_C) : Fin1 (fun g => r11_Load_B g i) := by
 cases i
 all_goals (delta r11_Load_B; dsimp only)
 unfold r11_Load_l0_b; rotate_left
 unfold r11_Load_j1_b; rotate_left
 unfold r11_Load_l2_b; rotate_left
 unfold r11_Load_j3_b; rotate_left
 all_goals repeat (first | refine fin_bind ?_ (fun _ => ?_) | refine fin_ite ?_ ?_ | refine fin_opt ?_ (fun _ => ?_) | exact fin_ask _ | exact fin_const _)
noncomputable def r11_Load_l0 (a0 : Int) (a1 : (List GApiObj)) (v0_20_0 : Int) : Option (GR11H × Int) := fixD r11_Load_B (.l0 a0 a1 v0_20_0)
noncomputable def r11_Load_j1 (a0 : Int) (a1 : (List GApiObj)) : Option (GR11H × Int) := fixD r11_Load_B (.j1 a0 a1)
noncomputable def r11_Load_l2 (a0 : Int) (a1 : (List GApiObj)) (v2_33_0 : Int) (m2_6_1 : Int) : Option (GR11H × Int) := fixD r11_Load_B (.l2 a0 a1 v2_33_0 m2_6_1)
noncomputable def r11_Load_j3 (a1 : (List GApiObj)) (a0 : Int) (m2_6_1 : Int) : Option (GR11H × Int) := fixD r11_Load_B (.j3 a1 a0 m2_6_1)
theorem r11_Load_l0_eq (a0 : Int) (a1 : (List GApiObj)) (v0_20_0 : Int) : r11_Load_l0 a0 a1 v0_20_0 =
  (if v0_20_0 < (a1.length : Int) then ((getI a1 v0_20_0).bind fun (x7_2 : GApiObj) => ((r11_May x7_2).bind fun (r7_4 : Bool) => (if r7_4 = true then r11_Load_l0 a0 a1 (w64 (v0_20_0 + 1)) else (some ((GR11H.mk 0 0 ([] : List GApiObj)), 1))))) else r11_Load_j1 a0 a1) := fix_eq r11_Load_B_fin _
theorem r11_Load_j1_eq (a0 : Int) (a1 : (List GApiObj)) : r11_Load_j1 a0 a1 =
  r11_Load_l2 a0 a1 0 0 := fix_eq r11_Load_B_fin _
theorem r11_Load_l2_eq (a0 : Int) (a1 : (List GApiObj)) (v2_33_0 : Int) (m2_6_1 : Int) : r11_Load_l2 a0 a1 v2_33_0 m2_6_1 =
  (if v2_33_0 < (a1.length : Int) then ((getI a1 v2_33_0).bind fun (x13_4 : GApiObj) => ((r11_Cost x13_4).bind fun (r13_6 : Int) => (if (w64 (m2_6_1 + r13_6)) > a0 then (some ((GR11H.mk 0 0 ([] : List GApiObj)), 21)) else r11_Load_l2 a0 a1 (w64 (v2_33_0 + 1)) (w64 (m2_6_1 + r13_6))))) else r11_Load_j3 a1 a0 m2_6_1) := fix_eq r11_Load_B_fin _
theorem r11_Load_j3_eq (a1 : (List GApiObj)) (a0 : Int) (m2_6_1 : Int) : r11_Load_j3 a1 a0 m2_6_1 =
  ((appD 56 ([] : List GApiObj) a1).bind fun (z17_3 : List GApiObj) => (some ((GR11H.mk a0 m2_6_1 z17_3), 0))) := fix_eq r11_Load_B_fin _
abbrev r11_Load_e (x : (GR11H × Int)) : A × List (Nat × Blk) := ((.tup [.agg [aI .i64 x.1.Room, aI .i64 x.1.Cells, .ref 800002], aI .i64 x.2]), [(800002, .row 27 4 (x.1.L.map c_GApiObj))])
def r11_Load_l0_s (a0 : Int) (a1 : (List GApiObj)) (v0_20_0 : Int) : LS := LS.mk 57 [(0, aI .i64 a0), (1, .t (.sl 4 (a1.map c_GApiObj))), (4, .ptr 4 0), (6, .ptr 6 0), (19, aI .i64 (a1.length : Int)), (20, aI .i64 v0_20_0)] [(4, some (.box 33 [aI .i64 0, aI .i64 0, aNil])), (6, some (.box 33 [aI .i64 a0, aI .i64 0, aNil]))]
def r11_Load_l2_s (a0 : Int) (a1 : (List GApiObj)) (v2_33_0 : Int) (m2_6_1 : Int) : LS := LS.mk 57 [(0, aI .i64 a0), (1, .t (.sl 4 (a1.map c_GApiObj))), (4, .ptr 4 0), (6, .ptr 6 0), (32, aI .i64 (a1.length : Int)), (33, aI .i64 v2_33_0)] [(4, some (.box 33 [aI .i64 0, aI .i64 0, aNil])), (6, some (.box 33 [aI .i64 a0, aI .i64 m2_6_1, aNil]))]
def r11_Load_j3_s (a1 : (List GApiObj)) (a0 : Int) (m2_6_1 : Int) : LS := LS.mk 57 [(1, .t (.sl 4 (a1.map c_GApiObj))), (4, .ptr 4 0), (6, .ptr 6 0)] [(4, some (.box 33 [aI .i64 0, aI .i64 0, aNil])), (6, some (.box 33 [aI .i64 a0, aI .i64 m2_6_1, aNil]))]
def r11_Load_j1_s (a0 : Int) (a1 : (List GApiObj)) : LS := LS.mk 57 [(0, aI .i64 a0), (1, .t (.sl 4 (a1.map c_GApiObj))), (4, .ptr 4 0), (6, .ptr 6 0)] [(4, some (.box 33 [aI .i64 0, aI .i64 0, aNil])), (6, some (.box 33 [aI .i64 a0, aI .i64 0, aNil]))]
theorem r11_Load_l0_ok (n : Nat)  (a0 : Int) (a1 : (List GApiObj)) (v0_20_0 : Int) (r_ : (GR11H × Int)) (Q' : Exit → St → Prop) (kr : KRI Try.prog 12 r11_Load_e r_ .ret Q') (k_x_0 : KX r11_Load_B n (.j1 a0 a1) r_ (r11_Load_j1_s a0 a1) (.exit 0) Q') (h : recN r11_Load_B n (.l0 a0 a1 v0_20_0) = some r_) : W Try.prog (subC (bodyC Try.prog 12) [1, 1, 1, 0, 1, 0]) (r11_Load_l0_s a0 a1 v0_20_0).st Q' := by
 refine W_fix (σ := Int) (fun m x_ => m ≤ n ∧ recN r11_Load_B m (.l0 a0 a1 x_) = some r_) (fun x_ => r11_Load_l0_s a0 a1 x_) (fun x hx => by cases hx.2) (fun _ _ => rfl) ?_ n (v0_20_0) ⟨Nat.le_refl _, h⟩
 clear h
 rintro m v0_20_0 ⟨hlt, h⟩
 replace h : r11_Load_l0_b (recN r11_Load_B m) a0 a1 v0_20_0 = some r_ := h
 unfold r11_Load_l0_b at h
 refine Wd [(21, aB (decide (v0_20_0 < (a1.length : Int))))] [] [] [] [q_] aN ?_
 refine W_seq ?_
 refine W_cd h (by kernel_rfl) (fun hx1001 h => ?_) (fun hx1001 h => ?_)
 refine W_skip ?_
 refine W_seq ?_
 refine W_block ?_
 refine Wd [(7, aI .i64 v0_20_0)] [21] [] [] [q_, q_] aN ?_
 obtain ⟨x7_2, hx7_2, h⟩ := bind_ok h
 obtain ⟨r7_4, hr7_4, h⟩ := bindk r11_May_ok h
 refine Wd [(28, aB (!r7_4))] [7] [] [] [q_, q_, qn (.ix (Int.toNat v0_20_0) (c_GApiObj x7_2)), q_, qn (.call [] (aB r7_4)), q_] (aC (ix_obx c_GApiObj hx7_2) (aC hr7_4 aN)) ?_
 refine W_cbn h (by kernel_rfl) (fun hx1002 h => ?_) (fun hx1002 h => ?_)
 refine W_skip ?_
 refine We [(20, aI .i64 (w64 (v0_20_0 + 1)))] [28] [] [] [q_, q_] aN ?_
 exact ⟨m, ((w64 (v0_20_0 + 1))), Nat.le_refl _, ⟨Nat.le_of_lt hlt, h⟩, cvf (cB [4, 6] [] [0, 1, 4, 6, 19, 20])⟩
 refine Wd [(5, aI .i64 1)] [0, 1, 6, 19, 20, 28] [] [6] [q_, q_, q_] aN ?_
 refine W_ret ?_
 exact kri kr (cG [(0, 2, .row 800002)] [] [] [] [] [(800002, 27, 4)] []) h
 refine W_exit ?_
 exact k_x_0 m hlt _ h (cvf (cB [4, 6] [] [0, 1, 4, 6]))
theorem r11_Load_l2_ok (n : Nat)  (a0 : Int) (a1 : (List GApiObj)) (v2_33_0 : Int) (m2_6_1 : Int) (r_ : (GR11H × Int)) (Q' : Exit → St → Prop) (kr : KRI Try.prog 12 r11_Load_e r_ .ret Q') (k_x_2 : ∀ (m2_6_1 : Int), KX r11_Load_B n (.j3 a1 a0 m2_6_1) r_ (r11_Load_j3_s a1 a0 m2_6_1) (.exit 2) Q') (h : recN r11_Load_B n (.l2 a0 a1 v2_33_0 m2_6_1) = some r_) : W Try.prog (subC (bodyC Try.prog 12) [1, 1, 1, 1, 0, 1, 0]) (r11_Load_l2_s a0 a1 v2_33_0 m2_6_1).st Q' := by
 refine W_fix (σ := Int × Int) (fun m x_ => m ≤ n ∧ recN r11_Load_B m (.l2 a0 a1 x_.1 x_.2) = some r_) (fun x_ => r11_Load_l2_s a0 a1 x_.1 x_.2) (fun x hx => by cases hx.2) (fun _ _ => rfl) ?_ n (v2_33_0, m2_6_1) ⟨Nat.le_refl _, h⟩
 clear h
 rintro m ⟨v2_33_0, m2_6_1⟩ ⟨hlt, h⟩
 replace h : r11_Load_l2_b (recN r11_Load_B m) a0 a1 v2_33_0 m2_6_1 = some r_ := h
 unfold r11_Load_l2_b at h
 refine Wd [(34, aB (decide (v2_33_0 < (a1.length : Int))))] [] [] [] [q_] aN ?_
 refine W_seq ?_
 refine W_cd h (by kernel_rfl) (fun hx3001 h => ?_) (fun hx3001 h => ?_)
 refine W_skip ?_
 refine W_seq ?_
 refine W_block ?_
 refine Wd [(8, aI .i64 v2_33_0)] [34] [] [] [q_, q_] aN ?_
 obtain ⟨x13_4, hx13_4, h⟩ := bind_ok h
 obtain ⟨r13_6, hr13_6, h⟩ := bindk r11_Cost_ok h
 refine Wd [] [8] [(6, .box 33 [aI .i64 a0, aI .i64 (w64 (m2_6_1 + r13_6)), aNil])] [] [q_, q_, q_, q_, qn (.ix (Int.toNat v2_33_0) (c_GApiObj x13_4)), q_, qn (.call [] (aI .i64 r13_6)), q_, q_, q_] (aC (ix_obx c_GApiObj hx13_4) (aC hr13_6 aN)) ?_
 refine Wd [(48, aB (decide ((w64 (m2_6_1 + r13_6)) > a0)))] [] [] [] (qz 4 []) aN ?_
 refine W_cd h (by kernel_rfl) (fun hx3002 h => ?_) (fun hx3002 h => ?_)
 refine Wd [(5, aI .i64 21)] [0, 1, 6, 32, 33, 48] [] [6] [q_, q_, q_] aN ?_
 refine W_ret ?_
 exact kri kr (cG [(0, 2, .row 800002)] [] [] [] [] [(800002, 27, 4)] []) h
 refine W_skip ?_
 refine We [(33, aI .i64 (w64 (v2_33_0 + 1)))] [48] [] [] [q_, q_] aN ?_
 exact ⟨m, ((w64 (v2_33_0 + 1)), (w64 (m2_6_1 + r13_6))), Nat.le_refl _, ⟨Nat.le_of_lt hlt, h⟩, cvf (cB [4, 6] [] [0, 1, 4, 6, 32, 33])⟩
 refine W_exit ?_
 exact k_x_2 m2_6_1 m hlt _ h (cvf (cB [4, 6] [] [1, 4, 6]))
theorem r11_Load_j3_ok (n : Nat)  (a1 : (List GApiObj)) (a0 : Int) (m2_6_1 : Int) (r_ : (GR11H × Int)) (Q' : Exit → St → Prop) (kr : KRI Try.prog 12 r11_Load_e r_ .ret Q')  (h : recN r11_Load_B n (.j3 a1 a0 m2_6_1) = some r_) : W Try.prog (subC (bodyC Try.prog 12) [1, 1, 1, 1, 1]) (r11_Load_j3_s a1 a0 m2_6_1).st Q' := by
 rcases n with _ | m
 cases h
 have hlt := Nat.lt_succ_self m
 replace h : r11_Load_j3_b (recN r11_Load_B m) a1 a0 m2_6_1 = some r_ := h
 unfold r11_Load_j3_b at h
 obtain ⟨z17_3, hz17_3, h⟩ := bind_ok h
 refine Wz [] [4, 6] [k_ 4, (6, some (.box 33 [aI .i64 a0, aI .i64 m2_6_1, .ref 100602])), (100602, some (.row 27 4 (z17_3.map c_GApiObj)))] (cG [] [4, 6] [] [(54, 100602)] [] []) [q_, q_, q_, qn (.rows (z17_3.map c_GApiObj)), q_, q_] (aC (ape_a c_GApiObj hz17_3) (aC (ape_r c_GApiObj hz17_3) aN)) ?_
 refine Wz [(5, aI .i64 0)] [4] [(4, some (.box 33 [aI .i64 a0, aI .i64 m2_6_1, .ref 100402])), (100402, some (.row 27 4 (z17_3.map c_GApiObj)))] (cG [] [4] [] [(100602, 100402)] [] []) [q_, q_, q_] aN ?_
 refine W_ret ?_
 exact kri kr (cG [] [] [] [(100402, 800002)] [] [] []) h
theorem r11_Load_j1_ok (n : Nat)  (a0 : Int) (a1 : (List GApiObj)) (r_ : (GR11H × Int)) (Q' : Exit → St → Prop) (kr : KRI Try.prog 12 r11_Load_e r_ .ret Q')  (h : recN r11_Load_B n (.j1 a0 a1) = some r_) : W Try.prog (subC (bodyC Try.prog 12) [1, 1, 1, 1]) (r11_Load_j1_s a0 a1).st Q' := by
 rcases n with _ | m
 cases h
 have hlt := Nat.lt_succ_self m
 replace h : r11_Load_j1_b (recN r11_Load_B m) a0 a1 = some r_ := h
 unfold r11_Load_j1_b at h
 refine W_seq ?_
 refine Wd [(32, aI .i64 (a1.length : Int)), (33, aI .i64 0)] [] [] [] [q_, qn (.len a1.length), q_] (aC (len_obx c_GApiObj a1) aN) ?_
 refine W_block ?_
 exact Wc (cB [4, 6] [] [0, 1, 4, 6, 32, 33]) (r11_Load_l2_ok m a0 a1 0 0 r_ _ kr (fun m2_6_1 q1 hq1 s' h hf => W_pre hf (r11_Load_j3_ok q1 a1 a0 m2_6_1 r_ _ kr h)) h)
noncomputable def r11_Load (a0 : Int) (a1 : (List GApiObj)) : Option (GR11H × Int) :=
  (if a0 < 0 then (some ((GR11H.mk 0 0 ([] : List GApiObj)), 1)) else (if a0 > 65536 then (some ((GR11H.mk 0 0 ([] : List GApiObj)), 1)) else r11_Load_l0 a0 a1 0))
theorem r11_Load_ok {a0 : Int} {a1 : (List GApiObj)} {r_ : (GR11H × Int)} (h : r11_Load a0 a1 = some r_) : RI_r11_Load a0 a1 r_ := by
 unfold r11_Load at h
 refine fn_ioZ (enc := r11_Load_e) (by kernel_rfl) (by kernel_rfl) fun Q' kr kn => ?_
 refine Wd [(4, .ptr 4 0)] [] [(4, .box 33 [aI .i64 0, aI .i64 0, aNil])] [] [q_, q_] aN ?_
 refine W_seq ?_
 refine if_c h (fun hx1 h => ?_) (fun hx1 h => ?_)
 refine Wd [(14, aB true)] [] [] [] [q_, q_, q_, qt0, qt0, qn (.dec true)] (aC hx1 (aC hx1 (aC hx1 aN))) ?_
 refine W_ct (e := true) rfl (by kernel_rfl) ?_
 refine Wd [(5, aI .i64 1)] [0, 1, 14] [] [] [q_, q_, q_] aN ?_
 refine W_ret ?_
 exact kri kr (cG [(0, 2, .row 800002)] [] [] [] [] [(800002, 27, 4)] []) h
 refine Wd [(14, aB (decide (a0 > 65536)))] [] [] [] [q_, q_, q_, qf0, qf0, qn (.dec false)] (aC hx1 (aC hx1 (aC hx1 aN))) ?_
 refine W_cd h (by kernel_rfl) (fun hx2 h => ?_) (fun hx2 h => ?_)
 refine Wd [(5, aI .i64 1)] [0, 1, 14] [] [] [q_, q_, q_] aN ?_
 refine W_ret ?_
 exact kri kr (cG [(0, 2, .row 800002)] [] [] [] [] [(800002, 27, 4)] []) h
 refine W_skip ?_
 refine Wd [(6, .ptr 6 0)] [14] [(6, .box 33 [aI .i64 a0, aI .i64 0, aNil])] [] (qz 4 []) aN ?_
 refine W_seq ?_
 refine Wd [(19, aI .i64 (a1.length : Int)), (20, aI .i64 0)] [] [] [] [q_, qn (.len a1.length), q_] (aC (len_obx c_GApiObj a1) aN) ?_
 refine W_block ?_
 obtain ⟨n, h⟩ := fix_rec h
 exact Wc (cB [4, 6] [] [0, 1, 4, 6, 19, 20]) (r11_Load_l0_ok n a0 a1 0 r_ _ kr (fun q1 hq1 s' h hf => W_pre hf (r11_Load_j1_ok q1 a0 a1 r_ _ kr h)) h)
theorem r11_Load_okp {a0 : Int} {a1 : (List GApiObj)} {r_ : (GR11H × Int)} (h : r11_Load a0 a1 = some r_) : R_r11_Load a0 a1 r_ := fnio_pure (r11_Load_ok h) (by kernel_rfl) (by kernel_rfl)
def R_r11_Great (a0 : (List GApiObj)) (r : Bool) : Prop := FnP Try.prog 9 [.t (.sl 4 (a0.map c_GApiObj))] (aB r)
inductive r11_Great_C where
  | l0 (a0 : (List GApiObj)) (v0_3_0 : Int) (v0_7_0 : Int)
  | j1
abbrev r11_Great_C_T : r11_Great_C → Type := fun _ => Bool
noncomputable def r11_Great_l0_b (g : (i : r11_Great_C) → Option (r11_Great_C_T i)) (a0 : (List GApiObj)) (v0_3_0 : Int) (v0_7_0 : Int) : Option Bool :=
  (if v0_7_0 < (a0.length : Int) then ((getI a0 v0_7_0).bind fun (x5_3 : GApiObj) => (if (w64 (v0_3_0 + (w64 ((w64 (1 + (if (5000 : Int) < (x5_3.Text.length : Int) then 5000 else (x5_3.Text.length : Int)))) + (if (5000 : Int) < (x5_3.Vals.length : Int) then 5000 else (x5_3.Vals.length : Int)))))) > 3000 then (some true) else g (.l0 a0 (w64 (v0_3_0 + (w64 ((w64 (1 + (if (5000 : Int) < (x5_3.Text.length : Int) then 5000 else (x5_3.Text.length : Int)))) + (if (5000 : Int) < (x5_3.Vals.length : Int) then 5000 else (x5_3.Vals.length : Int)))))) (w64 (v0_7_0 + 1))))) else g (.j1))
noncomputable def r11_Great_j1_b (g : (i : r11_Great_C) → Option (r11_Great_C_T i))  : Option Bool :=
  (some false)
noncomputable def r11_Great_B (g : (i : r11_Great_C) → Option (r11_Great_C_T i)) : (i : r11_Great_C) → Option (r11_Great_C_T i)
  | .l0 a0 v0_3_0 v0_7_0 => r11_Great_l0_b g a0 v0_3_0 v0_7_0
  | .j1  => r11_Great_j1_b g
theorem r11_Great_B_fin (i : r11_Great_C) : Fin1 (fun g => r11_Great_B g i) := by
 cases i
 all_goals (delta r11_Great_B; dsimp only)
 unfold r11_Great_l0_b; rotate_left
 unfold r11_Great_j1_b; rotate_left
 all_goals repeat (first | refine fin_bind ?_ (fun _ => ?_) | refine fin_ite ?_ ?_ | refine fin_opt ?_ (fun _ => ?_) | exact fin_ask _ | exact fin_const _)
noncomputable def r11_Great_l0 (a0 : (List GApiObj)) (v0_3_0 : Int) (v0_7_0 : Int) : Option Bool := fixD r11_Great_B (.l0 a0 v0_3_0 v0_7_0)
noncomputable def r11_Great_j1  : Option Bool := fixD r11_Great_B (.j1 )
theorem r11_Great_l0_eq (a0 : (List GApiObj)) (v0_3_0 : Int) (v0_7_0 : Int) : r11_Great_l0 a0 v0_3_0 v0_7_0 =
  (if v0_7_0 < (a0.length : Int) then ((getI a0 v0_7_0).bind fun (x5_3 : GApiObj) => (if (w64 (v0_3_0 + (w64 ((w64 (1 + (if (5000 : Int) < (x5_3.Text.length : Int) then 5000 else (x5_3.Text.length : Int)))) + (if (5000 : Int) < (x5_3.Vals.length : Int) then 5000 else (x5_3.Vals.length : Int)))))) > 3000 then (some true) else r11_Great_l0 a0 (w64 (v0_3_0 + (w64 ((w64 (1 + (if (5000 : Int) < (x5_3.Text.length : Int) then 5000 else (x5_3.Text.length : Int)))) + (if (5000 : Int) < (x5_3.Vals.length : Int) then 5000 else (x5_3.Vals.length : Int)))))) (w64 (v0_7_0 + 1)))) else r11_Great_j1) := fix_eq r11_Great_B_fin _
theorem r11_Great_j1_eq  : r11_Great_j1  =
  (some false) := fix_eq r11_Great_B_fin _
abbrev r11_Great_e (x : Bool) : A := (aB x)
def r11_Great_l0_s (a0 : (List GApiObj)) (v0_3_0 : Int) (v0_7_0 : Int) : LS := LS.mk 31 [(0, .t (.sl 4 (a0.map c_GApiObj))), (3, aI .i64 v0_3_0), (6, aI .i64 (a0.length : Int)), (7, aI .i64 v0_7_0)] []
def r11_Great_j1_s  : LS := LS.mk 31 [] []
theorem r11_Great_l0_ok (n : Nat)  (a0 : (List GApiObj)) (v0_3_0 : Int) (v0_7_0 : Int) (r_ : Bool) (Q' : Exit → St → Prop) (kr : KR Try.prog 9 r11_Great_e r_ .ret Q') (k_x_0 : KX r11_Great_B n (.j1 ) r_ (r11_Great_j1_s ) (.exit 0) Q') (h : recN r11_Great_B n (.l0 a0 v0_3_0 v0_7_0) = some r_) : W Try.prog (subC (bodyC Try.prog 9) [1, 1, 0, 1, 0]) (r11_Great_l0_s a0 v0_3_0 v0_7_0).st Q' := by
 refine W_fix (σ := Int × Int) (fun m x_ => m ≤ n ∧ recN r11_Great_B m (.l0 a0 x_.1 x_.2) = some r_) (fun x_ => r11_Great_l0_s a0 x_.1 x_.2) (fun x hx => by cases hx.2) (fun _ _ => rfl) ?_ n (v0_3_0, v0_7_0) ⟨Nat.le_refl _, h⟩
 clear h
 rintro m ⟨v0_3_0, v0_7_0⟩ ⟨hlt, h⟩
 replace h : r11_Great_l0_b (recN r11_Great_B m) a0 v0_3_0 v0_7_0 = some r_ := h
 unfold r11_Great_l0_b at h
 refine Wd [(8, aB (decide (v0_7_0 < (a0.length : Int))))] [] [] [] [q_] aN ?_
 refine W_seq ?_
 refine W_cd h (by kernel_rfl) (fun hx1001 h => ?_) (fun hx1001 h => ?_)
 refine W_skip ?_
 refine W_seq ?_
 refine W_block ?_
 refine Wd [(4, aI .i64 v0_7_0)] [8] [] [] [q_, q_] aN ?_
 obtain ⟨x5_3, hx5_3, h⟩ := bind_ok h
 refine Wd [(3, aI .i64 (w64 (v0_3_0 + (w64 ((w64 (1 + (if (5000 : Int) < (x5_3.Text.length : Int) then 5000 else (x5_3.Text.length : Int)))) + (if (5000 : Int) < (x5_3.Vals.length : Int) then 5000 else (x5_3.Vals.length : Int)))))))] [4] [] [] [q_, q_, q_, qn (.ix (Int.toNat v0_7_0) (c_GApiObj x5_3)), q_, q_, q_, qn (.quiet (aI .i64 (if (5000 : Int) < (x5_3.Text.length : Int) then 5000 else (x5_3.Text.length : Int)))), q_, q_, q_, qn (.ix (Int.toNat v0_7_0) (c_GApiObj x5_3)), q_, q_, qn (.len x5_3.Vals.length), qn (.quiet (aI .i64 (if (5000 : Int) < (x5_3.Vals.length : Int) then 5000 else (x5_3.Vals.length : Int)))), q_, q_, q_] (aC (ix_obx c_GApiObj hx5_3) (aC (show Quiet Try.prog (opAt (subC (bodyC Try.prog 9) [1, 1, 0, 1, 0, 0, 1, 1, 0, 0, 1, 0]) 7) [aI .i64 (x5_3.Text.length : Int), aI .i64 5000] (aI .i64 (if (5000 : Int) < (x5_3.Text.length : Int) then 5000 else (x5_3.Text.length : Int))) from min_ob (by rfl) (by rfl) (by rfl)) (aC (ix_obx c_GApiObj hx5_3) (aC (len_obx c_GApiValue x5_3.Vals) (aC (show Quiet Try.prog (opAt (subC (bodyC Try.prog 9) [1, 1, 0, 1, 0, 0, 1, 1, 0, 0, 1, 0]) 15) [aI .i64 (x5_3.Vals.length : Int), aI .i64 5000] (aI .i64 (if (5000 : Int) < (x5_3.Vals.length : Int) then 5000 else (x5_3.Vals.length : Int))) from min_ob (by rfl) (by rfl) (by rfl)) aN))))) ?_
 refine Wd [(29, aB (decide ((w64 (v0_3_0 + (w64 ((w64 (1 + (if (5000 : Int) < (x5_3.Text.length : Int) then 5000 else (x5_3.Text.length : Int)))) + (if (5000 : Int) < (x5_3.Vals.length : Int) then 5000 else (x5_3.Vals.length : Int)))))) > 3000)))] [] [] [] [q_, q_] aN ?_
 refine W_cd h (by kernel_rfl) (fun hx1002 h => ?_) (fun hx1002 h => ?_)
 refine Wd [(2, aB true)] [0, 3, 6, 7, 29] [] [] [q_] aN ?_
 refine W_ret ?_
 exact kre kr [] h
 refine W_skip ?_
 refine We [(7, aI .i64 (w64 (v0_7_0 + 1)))] [29] [] [] [q_, q_] aN ?_
 exact ⟨m, ((w64 (v0_3_0 + (w64 ((w64 (1 + (if (5000 : Int) < (x5_3.Text.length : Int) then 5000 else (x5_3.Text.length : Int)))) + (if (5000 : Int) < (x5_3.Vals.length : Int) then 5000 else (x5_3.Vals.length : Int)))))), (w64 (v0_7_0 + 1))), Nat.le_refl _, ⟨Nat.le_of_lt hlt, h⟩, cvf (c0 [0, 3, 6, 7])⟩
 refine W_exit ?_
 exact k_x_0 m hlt _ h (cvf (c0 []))
theorem r11_Great_j1_ok (n : Nat)   (r_ : Bool) (Q' : Exit → St → Prop) (kr : KR Try.prog 9 r11_Great_e r_ .ret Q')  (h : recN r11_Great_B n (.j1 ) = some r_) : W Try.prog (subC (bodyC Try.prog 9) [1, 1, 1]) (r11_Great_j1_s ).st Q' := by
 rcases n with _ | m
 cases h
 have hlt := Nat.lt_succ_self m
 replace h : r11_Great_j1_b (recN r11_Great_B m)  = some r_ := h
 unfold r11_Great_j1_b at h
 refine Wd [(2, aB false)] [] [] [] [q_] aN ?_
 refine W_ret ?_
 exact kre kr [] h
noncomputable def r11_Great (a0 : (List GApiObj)) : Option Bool :=
  r11_Great_l0 a0 0 0
theorem r11_Great_ok {a0 : (List GApiObj)} {r_ : Bool} (h : r11_Great a0 = some r_) : R_r11_Great a0 r_ := by
 unfold r11_Great at h
 refine fn_pureZ (enc := r11_Great_e) (by kernel_rfl) fun Q' kr kn => ?_
 refine Wd [] [] [] [] [q_] aN ?_
 refine Wd [(3, aI .i64 0)] [] [] [] [q_] aN ?_
 refine W_seq ?_
 refine Wd [(6, aI .i64 (a0.length : Int)), (7, aI .i64 0)] [] [] [] [q_, qn (.len a0.length), q_] (aC (len_obx c_GApiObj a0) aN) ?_
 refine W_block ?_
 obtain ⟨n, h⟩ := fix_rec h
 exact Wc (c0 [0, 3, 6, 7]) (r11_Great_l0_ok n a0 0 0 r_ _ kr (fun q1 hq1 s' h hf => W_pre hf (r11_Great_j1_ok q1 r_ _ kr h)) h)
end Go.Proofs.Ytblikpgdepjhdaa
