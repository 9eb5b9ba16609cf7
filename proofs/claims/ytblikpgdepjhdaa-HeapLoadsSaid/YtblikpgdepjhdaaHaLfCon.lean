/- Parts of the proof. -/
import Derived.Test.YtblikpgdepjhdaaHaXF
namespace Go.Proofs.Ytblikpgdepjhdaa
open Go.RowKit
set_option linter.unusedVariables false
set_option maxRecDepth 100000
set_option maxHeartbeats 4000000
def R_heap_may (a0 : GApiObj) (r : Bool) : Prop := FnP Try.prog 30 [e_GApiObj a0] (aB r)
abbrev heap_may_e (x : Bool) : A := (aB x)
noncomputable def heap_may_j0 (a0 : GApiObj) : Option Bool :=
  (if a0.Text = ([] : List UInt8) then (some (decide (a0.Of ≥ 0))) else (some false))
def heap_may_j0_s (a0 : GApiObj) : LS := LS.mk 32 [(1, .ptr 1 0)] [(1, some (.box 27 (b_GApiObj a0)))]
theorem heap_may_j0_ok (a0 : GApiObj) (r_ : Bool) (Q' : Exit → St → Prop) (kr : KR Try.prog 30 heap_may_e r_ .ret Q')  (h : heap_may_j0 a0 = some r_) : W Try.prog (subC (bodyC Try.prog 30) [1, 0, 1, 0, 1, 1, 1, 0]) (heap_may_j0_s a0).st Q' := by
 unfold heap_may_j0 at h
 refine if_c h (fun hx1001 h => ?_) (fun hx1001 h => ?_)
 refine Wd [(2, aB (decide (a0.Of ≥ 0)))] [1] [] [1] [q_, q_, qn (.val (.bool (decide (a0.Text = ([] : List UInt8))))), q_, qt0, qt0, qt0, qn (.dec true), q_] (aC (str_eq_ob (P := Try.prog) 9 a0.Text ([] : List UInt8)) (aC hx1001 (aC hx1001 (aC hx1001 (aC hx1001 aN))))) ?_
 refine W_ret ?_
 exact kre kr [] h
 refine Wd [(2, aB false)] [1] [] [1] [q_, q_, qn (.val (.bool (decide (a0.Text = ([] : List UInt8))))), q_, qf0, qf0, qf0, qn (.dec false), q_] (aC (str_eq_ob (P := Try.prog) 9 a0.Text ([] : List UInt8)) (aC hx1001 (aC hx1001 (aC hx1001 (aC hx1001 aN))))) ?_
 refine W_ret ?_
 exact kre kr [] h
noncomputable def heap_may (a0 : GApiObj) : Option Bool :=
  (if a0.Kind = 3 then (if a0.Text = ([] : List UInt8) then (some false) else (if (a0.Vals.length : Int) = 0 then (some (decide (a0.Of = 0))) else (some false))) else (if a0.Kind = 7 then heap_may_j0 a0 else (if a0.Kind = 6 then heap_may_j0 a0 else (some false))))
theorem heap_may_ok {a0 : GApiObj} {r_ : Bool} (h : heap_may a0 = some r_) : R_heap_may a0 r_ := by
 unfold heap_may at h
 refine fn_pureZ (enc := heap_may_e) (by kernel_rfl) fun Q' kr kn => ?_
 refine Wd [(1, .ptr 1 0)] [0] [(1, .box 27 (b_GApiObj a0))] [] [q_, q_] aN ?_
 refine W_seq ?_
 refine Wd [(4, aI .u8 a0.Kind)] [] [] [] [q_, q_] aN ?_
 refine W_block ?_
 refine Wd [(5, aB (decide (a0.Kind = 3)))] [] [] [] [q_, q_] aN ?_
 refine W_cd h (by kernel_rfl) (fun hx1 h => ?_) (fun hx1 h => ?_)
 refine if_c h (fun hx2 h => ?_) (fun hx2 h => ?_)
 refine Wd [(2, aB false)] [1, 4, 5] [] [1] (q_ :: q_ :: qn (.val (.bool (!(decide (a0.Text = ([] : List UInt8)))))) :: q_ :: qf0 :: qf0 :: qf0 :: qf0 :: qn (.dec false) :: (qz 6 [])) (aC (str_ne_ob (P := Try.prog) 9 a0.Text ([] : List UInt8)) (aC (not_t hx2) (aC (not_t hx2) (aC (not_t hx2) (aC (not_t hx2) (aC (not_t hx2) aN)))))) ?_
 refine W_ret ?_
 exact kre kr [] h
 refine if_c h (fun hx3 h => ?_) (fun hx3 h => ?_)
 refine Wd [(2, aB (decide (a0.Of = 0)))] [1, 4, 5] [] [1] [q_, q_, qn (.val (.bool (!(decide (a0.Text = ([] : List UInt8)))))), q_, qt0, qt0, qt (.len a0.Vals.length), qt0, qn (.dec true), q_, qt0, qt0, qt0, qn (.dec true), q_] (aC (str_ne_ob (P := Try.prog) 9 a0.Text ([] : List UInt8)) (aC (not_f hx2) (aC (not_f hx2) (aC (not_f hx2) (aC (len_obx c_GApiValue a0.Vals) (aC (not_f hx2) (aC (not_f hx2) (aC hx3 (aC hx3 (aC hx3 (aC hx3 aN))))))))))) ?_
 refine W_ret ?_
 exact kre kr [] h
 refine Wd [(2, aB false)] [1, 4, 5] [] [1] [q_, q_, qn (.val (.bool (!(decide (a0.Text = ([] : List UInt8)))))), q_, qt0, qt0, qt (.len a0.Vals.length), qt0, qn (.dec true), q_, qf0, qf0, qf0, qn (.dec false), q_] (aC (str_ne_ob (P := Try.prog) 9 a0.Text ([] : List UInt8)) (aC (not_f hx2) (aC (not_f hx2) (aC (not_f hx2) (aC (len_obx c_GApiValue a0.Vals) (aC (not_f hx2) (aC (not_f hx2) (aC hx3 (aC hx3 (aC hx3 (aC hx3 aN))))))))))) ?_
 refine W_ret ?_
 exact kre kr [] h
 refine W_seq ?_
 refine Wd [(21, aB (decide (a0.Kind = 7)))] [5] [] [] [q_, q_] aN ?_
 refine W_cd h (by kernel_rfl) (fun hx4 h => ?_) (fun hx4 h => ?_)
 refine W_skip ?_
 refine W_ct (e := (decide (a0.Kind = 7))) hx4 (by kernel_rfl) ?_
 exact Wc (cB [1] [] [1]) (heap_may_j0_ok a0 r_ _ kr h)
 refine We [(21, aB (decide (a0.Kind = 6)))] [4] [] [] [q_, q_] aN ?_
 refine W_cd h (by kernel_rfl) (fun hx5 h => ?_) (fun hx5 h => ?_)
 exact Wc (cB [1] [] [1]) (heap_may_j0_ok a0 r_ _ kr h)
 refine W_skip ?_
 refine Wd [(2, aB false)] [1, 21] [] [1] [q_] aN ?_
 refine W_ret ?_
 exact kre kr [] h
def R_heap_Load_1 (a0 : GApiObj) (r : Bool) : Prop := FnP Try.prog 29 [e_GApiObj a0] (aB r)
abbrev heap_Load_1_e (x : Bool) : A := (aB x)
noncomputable def heap_Load_1 (a0 : GApiObj) : Option Bool :=
  ((heap_may a0).bind fun (r1_1 : Bool) => (some (!r1_1)))
theorem heap_Load_1_ok {a0 : GApiObj} {r_ : Bool} (h : heap_Load_1 a0 = some r_) : R_heap_Load_1 a0 r_ := by
 unfold heap_Load_1 at h
 refine fn_pureZ (enc := heap_Load_1_e) (by kernel_rfl) fun Q' kr kn => ?_
 refine Wd [(1, .ptr 1 0)] [0] [(1, .box 27 (b_GApiObj a0))] [] [q_, q_] aN ?_
 obtain ⟨r1_1, hr1_1, h⟩ := bindk heap_may_ok h
 refine Wd [(2, aB (!r1_1))] [1] [] [1] [q_, qn (.call [] (aB r1_1)), q_, q_] (aC hr1_1 aN) ?_
 refine W_ret ?_
 exact kre kr [] h
def R_slices_IndexFunc_api_Obj (a0 : (List GApiObj)) (a1 : Fv67) (r : Int) : Prop := FnP Try.prog 48 [.t (.sl 4 (a0.map c_GApiObj)), .t (a1.t)] (aI .i64 r)
inductive slices_IndexFunc_api_Obj_C where
  | l0 (a0 : (List GApiObj)) (a1 : Fv67) (v0_8_0 : Int)
  | j1
abbrev slices_IndexFunc_api_Obj_C_T : slices_IndexFunc_api_Obj_C → Type := fun _ => Int
noncomputable def slices_IndexFunc_api_Obj_l0_b (g : (i : slices_IndexFunc_api_Obj_C) → Option (slices_IndexFunc_api_Obj_C_T i)) (a0 : (List GApiObj)) (a1 : Fv67) (v0_8_0 : Int) : Option Int :=
  (if v0_8_0 < (a0.length : Int) then ((getI a0 v0_8_0).bind fun (x4_3 : GApiObj) => ((a1.run x4_3).bind fun (r4_5 : Bool) => (if r4_5 = true then (some v0_8_0) else g (.l0 a0 a1 (w64 (v0_8_0 + 1)))))) else g (.j1))
noncomputable def slices_IndexFunc_api_Obj_j1_b (g : (i : slices_IndexFunc_api_Obj_C) → Option (slices_IndexFunc_api_Obj_C_T i))  : Option Int :=
  (some (-1))
noncomputable def slices_IndexFunc_api_Obj_B (g : (i : slices_IndexFunc_api_Obj_C) → Option (slices_IndexFunc_api_Obj_C_T i)) : (i : slices_IndexFunc_api_Obj_C) → Option (slices_IndexFunc_api_Obj_C_T i)
  | .l0 a0 a1 v0_8_0 => slices_IndexFunc_api_Obj_l0_b g a0 a1 v0_8_0
  | .j1  => slices_IndexFunc_api_Obj_j1_b g
theorem slices_IndexFunc_api_Obj_B_fin (i : slices_IndexFunc_api_Obj_C) : Fin1 (fun g => slices_IndexFunc_api_Obj_B g i) := by
 cases i
 all_goals (delta slices_IndexFunc_api_Obj_B; dsimp only)
 unfold slices_IndexFunc_api_Obj_l0_b; rotate_left
 unfold slices_IndexFunc_api_Obj_j1_b; rotate_left
 all_goals repeat (first | refine fin_bind ?_ (fun _ => ?_) | refine fin_ite ?_ ?_ | refine fin_opt ?_ (fun _ => ?_) | exact fin_ask _ | exact fin_const _)
noncomputable def slices_IndexFunc_api_Obj_l0 (a0 : (List GApiObj)) (a1 : Fv67) (v0_8_0 : Int) : Option Int := fixD slices_IndexFunc_api_Obj_B (.l0 a0 a1 v0_8_0)
noncomputable def slices_IndexFunc_api_Obj_j1  : Option Int := fixD slices_IndexFunc_api_Obj_B (.j1 )
theorem slices_IndexFunc_api_Obj_l0_eq (a0 : (List GApiObj)) (a1 : Fv67) (v0_8_0 : Int) : slices_IndexFunc_api_Obj_l0 a0 a1 v0_8_0 =
  (if v0_8_0 < (a0.length : Int) then ((getI a0 v0_8_0).bind fun (x4_3 : GApiObj) => ((a1.run x4_3).bind fun (r4_5 : Bool) => (if r4_5 = true then (some v0_8_0) else slices_IndexFunc_api_Obj_l0 a0 a1 (w64 (v0_8_0 + 1))))) else slices_IndexFunc_api_Obj_j1) := fix_eq slices_IndexFunc_api_Obj_B_fin _
theorem slices_IndexFunc_api_Obj_j1_eq  : slices_IndexFunc_api_Obj_j1  =
  (some (-1)) := fix_eq slices_IndexFunc_api_Obj_B_fin _
abbrev slices_IndexFunc_api_Obj_e (x : Int) : A := (aI .i64 x)
def slices_IndexFunc_api_Obj_l0_s (a0 : (List GApiObj)) (a1 : Fv67) (v0_8_0 : Int) : LS := LS.mk 19 [(0, .t (.sl 4 (a0.map c_GApiObj))), (1, .t (a1.t)), (7, aI .i64 (a0.length : Int)), (8, aI .i64 v0_8_0)] []
def slices_IndexFunc_api_Obj_j1_s  : LS := LS.mk 19 [] []
theorem slices_IndexFunc_api_Obj_l0_ok (n : Nat)  (a0 : (List GApiObj)) (a1 : Fv67) (v0_8_0 : Int) (r_ : Int) (Q' : Exit → St → Prop) (kr : KR Try.prog 48 slices_IndexFunc_api_Obj_e r_ .ret Q') (k_x_0 : KX slices_IndexFunc_api_Obj_B n (.j1 ) r_ (slices_IndexFunc_api_Obj_j1_s ) (.exit 0) Q') (h : recN slices_IndexFunc_api_Obj_B n (.l0 a0 a1 v0_8_0) = some r_) : W Try.prog (subC (bodyC Try.prog 48) [1, 0, 1, 0]) (slices_IndexFunc_api_Obj_l0_s a0 a1 v0_8_0).st Q' := by
 refine W_fix (σ := Int) (fun m x_ => m ≤ n ∧ recN slices_IndexFunc_api_Obj_B m (.l0 a0 a1 x_) = some r_) (fun x_ => slices_IndexFunc_api_Obj_l0_s a0 a1 x_) (fun x hx => by cases hx.2) (fun _ _ => rfl) ?_ n (v0_8_0) ⟨Nat.le_refl _, h⟩
 clear h
 rintro m v0_8_0 ⟨hlt, h⟩
 replace h : slices_IndexFunc_api_Obj_l0_b (recN slices_IndexFunc_api_Obj_B m) a0 a1 v0_8_0 = some r_ := h
 unfold slices_IndexFunc_api_Obj_l0_b at h
 refine Wd [(9, aB (decide (v0_8_0 < (a0.length : Int))))] [] [] [] [q_] aN ?_
 refine W_seq ?_
 refine W_cd h (by kernel_rfl) (fun hx1001 h => ?_) (fun hx1001 h => ?_)
 refine W_skip ?_
 refine W_seq ?_
 refine W_block ?_
 refine Wd [(5, aI .i64 v0_8_0)] [9] [] [] [q_, q_] aN ?_
 obtain ⟨x4_3, hx4_3, h⟩ := bind_ok h
 obtain ⟨r4_5, hr4_5, h⟩ := bind_ok h
 refine Wd [(16, aB r4_5)] [] [] [] [q_, q_, q_, qn (.ix (Int.toNat v0_8_0) (c_GApiObj x4_3)), q_, qn (.callv (aB r4_5))] (aC (ix_obx c_GApiObj hx4_3) (aC (a1.ok _ _ hr4_5) aN)) ?_
 refine W_cb h (by kernel_rfl) (fun hx1002 h => ?_) (fun hx1002 h => ?_)
 refine Wd [(4, aI .i64 v0_8_0)] [0, 1, 5, 7, 8, 16] [] [] [q_, q_] aN ?_
 refine W_ret ?_
 exact kre kr [] h
 refine W_skip ?_
 refine We [(8, aI .i64 (w64 (v0_8_0 + 1)))] [5, 16] [] [] [q_, q_] aN ?_
 exact ⟨m, ((w64 (v0_8_0 + 1))), Nat.le_refl _, ⟨Nat.le_of_lt hlt, h⟩, cvf (c0 [0, 1, 7, 8])⟩
 refine W_exit ?_
 exact k_x_0 m hlt _ h (cvf (c0 []))
theorem slices_IndexFunc_api_Obj_j1_ok (n : Nat)   (r_ : Int) (Q' : Exit → St → Prop) (kr : KR Try.prog 48 slices_IndexFunc_api_Obj_e r_ .ret Q')  (h : recN slices_IndexFunc_api_Obj_B n (.j1 ) = some r_) : W Try.prog (subC (bodyC Try.prog 48) [1, 1]) (slices_IndexFunc_api_Obj_j1_s ).st Q' := by
 rcases n with _ | m
 cases h
 have hlt := Nat.lt_succ_self m
 replace h : slices_IndexFunc_api_Obj_j1_b (recN slices_IndexFunc_api_Obj_B m)  = some r_ := h
 unfold slices_IndexFunc_api_Obj_j1_b at h
 refine Wd [(4, aI .i64 (-1))] [] [] [] [q_] aN ?_
 refine W_ret ?_
 exact kre kr [] h
noncomputable def slices_IndexFunc_api_Obj (a0 : (List GApiObj)) (a1 : Fv67) : Option Int :=
  slices_IndexFunc_api_Obj_l0 a0 a1 0
theorem slices_IndexFunc_api_Obj_ok {a0 : (List GApiObj)} {a1 : Fv67} {r_ : Int} (h : slices_IndexFunc_api_Obj a0 a1 = some r_) : R_slices_IndexFunc_api_Obj a0 a1 r_ := by
 unfold slices_IndexFunc_api_Obj at h
 refine fn_pureZ (enc := slices_IndexFunc_api_Obj_e) (by kernel_rfl) fun Q' kr kn => ?_
 refine Wd [] [] [] [] [q_] aN ?_
 refine W_seq ?_
 refine Wd [(7, aI .i64 (a0.length : Int)), (8, aI .i64 0)] [] [] [] [q_, qn (.len a0.length), q_] (aC (len_obx c_GApiObj a0) aN) ?_
 refine W_block ?_
 obtain ⟨n, h⟩ := fix_rec h
 exact Wc (c0 [0, 1, 7, 8]) (slices_IndexFunc_api_Obj_l0_ok n a0 a1 0 r_ _ kr (fun q1 hq1 s' h hf => W_pre hf (slices_IndexFunc_api_Obj_j1_ok q1 r_ _ kr h)) h)
def R_slices_ContainsFunc_api_Obj (a0 : (List GApiObj)) (a1 : Fv67) (r : Bool) : Prop := FnP Try.prog 28 [.t (.sl 4 (a0.map c_GApiObj)), .t (a1.t)] (aB r)
abbrev slices_ContainsFunc_api_Obj_e (x : Bool) : A := (aB x)
noncomputable def slices_ContainsFunc_api_Obj (a0 : (List GApiObj)) (a1 : Fv67) : Option Bool :=
  ((slices_IndexFunc_api_Obj a0 a1).bind fun (r1_2 : Int) => (some (decide (r1_2 ≥ 0))))
theorem slices_ContainsFunc_api_Obj_ok {a0 : (List GApiObj)} {a1 : Fv67} {r_ : Bool} (h : slices_ContainsFunc_api_Obj a0 a1 = some r_) : R_slices_ContainsFunc_api_Obj a0 a1 r_ := by
 unfold slices_ContainsFunc_api_Obj at h
 refine fn_pureZ (enc := slices_ContainsFunc_api_Obj_e) (by kernel_rfl) fun Q' kr kn => ?_
 refine Wd [] [] [] [] [q_] aN ?_
 obtain ⟨r1_2, hr1_2, h⟩ := bindk slices_IndexFunc_api_Obj_ok h
 refine Wd [(4, aB (decide (r1_2 ≥ 0)))] [0, 1] [] [] [q_, q_, qn (.call [] (aI .i64 r1_2)), q_, q_] (aC hr1_2 aN) ?_
 refine W_ret ?_
 exact kre kr [] h
end Go.Proofs.Ytblikpgdepjhdaa
