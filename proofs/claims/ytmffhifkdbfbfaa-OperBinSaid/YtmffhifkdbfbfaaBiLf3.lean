/- Parts of the proof. -/
import Derived.Test.YtmffhifkdbfbfaaBiLf2
namespace Go.Proofs.Ytmffhifkdbfbfaa
open Go.RowKit
set_option linter.unusedVariables false
set_option maxHeartbeats 4000000
def R_hindcastref11_SameValues (a0 : (List GApiValue)) (a1 : (List GApiValue)) (r : Bool) : Prop := FnP Try.prog 55 [.t (.sl 4 (a0.map c_GApiValue)), .t (.sl 4 (a1.map c_GApiValue))] (aB r)
inductive hindcastref11_SameValues_C where
  | l0 (a0 : (List GApiValue)) (a1 : (List GApiValue)) (v0_13_0 : Int)
  | j1
abbrev hindcastref11_SameValues_C_T : hindcastref11_SameValues_C → Type := fun _ => Bool
noncomputable def hindcastref11_SameValues_l0_b (g : (i : hindcastref11_SameValues_C) → Option (hindcastref11_SameValues_C_T i)) (a0 : (List GApiValue)) (a1 : (List GApiValue)) (v0_13_0 : Int) : Option Bool :=
  (if v0_13_0 < (a0.length : Int) then ((getI a0 v0_13_0).bind fun (x6_2 : GApiValue) => ((getI a1 v0_13_0).bind fun (x6_6 : GApiValue) => (if (decide (x6_2.Kind = x6_6.Kind) && (decide (x6_2.N = x6_6.N) && (decide (x6_2.Re = x6_6.Re) && decide (x6_2.Im = x6_6.Im)))) = true then g (.l0 a0 a1 (w64 (v0_13_0 + 1))) else (some false)))) else g (.j1))
noncomputable def hindcastref11_SameValues_j1_b (g : (i : hindcastref11_SameValues_C) → Option (hindcastref11_SameValues_C_T i))  : Option Bool :=
  (some true)
noncomputable def hindcastref11_SameValues_B (g : (i : hindcastref11_SameValues_C) → Option (hindcastref11_SameValues_C_T i)) : (i : hindcastref11_SameValues_C) → Option (hindcastref11_SameValues_C_T i)
  | .l0 a0 a1 v0_13_0 => hindcastref11_SameValues_l0_b g a0 a1 v0_13_0
  | .j1  => hindcastref11_SameValues_j1_b g
theorem hindcastref11_SameValues_B_fin (i : hindcastref11_SameValues_C) : Fin1 (fun g => hindcastref11_SameValues_B g i) := by
 cases i
 all_goals (delta hindcastref11_SameValues_B; dsimp only)
 unfold hindcastref11_SameValues_l0_b; rotate_left
 unfold hindcastref11_SameValues_j1_b; rotate_left
 all_goals repeat (first | refine fin_bind ?_ (fun _ => ?_) | refine fin_ite ?_ ?_ | refine fin_opt ?_ (fun _ => ?_) | exact fin_ask _ | exact fin_const _)
noncomputable def hindcastref11_SameValues_l0 (a0 : (List GApiValue)) (a1 : (List GApiValue)) (v0_13_0 : Int) : Option Bool := fixD hindcastref11_SameValues_B (.l0 a0 a1 v0_13_0)
noncomputable def hindcastref11_SameValues_j1  : Option Bool := fixD hindcastref11_SameValues_B (.j1 )
theorem hindcastref11_SameValues_l0_eq (a0 : (List GApiValue)) (a1 : (List GApiValue)) (v0_13_0 : Int) : hindcastref11_SameValues_l0 a0 a1 v0_13_0 =
  (if v0_13_0 < (a0.length : Int) then ((getI a0 v0_13_0).bind fun (x6_2 : GApiValue) => ((getI a1 v0_13_0).bind fun (x6_6 : GApiValue) => (if (decide (x6_2.Kind = x6_6.Kind) && (decide (x6_2.N = x6_6.N) && (decide (x6_2.Re = x6_6.Re) && decide (x6_2.Im = x6_6.Im)))) = true then hindcastref11_SameValues_l0 a0 a1 (w64 (v0_13_0 + 1)) else (some false)))) else hindcastref11_SameValues_j1) := fix_eq hindcastref11_SameValues_B_fin _
theorem hindcastref11_SameValues_j1_eq  : hindcastref11_SameValues_j1  =
  (some true) := fix_eq hindcastref11_SameValues_B_fin _
abbrev hindcastref11_SameValues_e (x : Bool) : A := (aB x)
def hindcastref11_SameValues_l0_s (a0 : (List GApiValue)) (a1 : (List GApiValue)) (v0_13_0 : Int) : LS := LS.mk 26 [(0, .t (.sl 4 (a0.map c_GApiValue))), (1, .t (.sl 4 (a1.map c_GApiValue))), (12, aI .i64 (a0.length : Int)), (13, aI .i64 v0_13_0)] []
def hindcastref11_SameValues_j1_s  : LS := LS.mk 26 [] []
set_option maxRecDepth 100000 in
theorem hindcastref11_SameValues_l0_ok (n : Nat)  (a0 : (List GApiValue)) (a1 : (List GApiValue)) (v0_13_0 : Int) (r_ : Bool) (Q' : Exit → St → Prop) (kr : KR Try.prog 55 hindcastref11_SameValues_e r_ .ret Q') (k_x_0 : KX hindcastref11_SameValues_B n (.j1 ) r_ (hindcastref11_SameValues_j1_s ) (.exit 0) Q') (h : recN hindcastref11_SameValues_B n (.l0 a0 a1 v0_13_0) = some r_) : W Try.prog (subC (bodyC Try.prog 55) [1, 1, 0, 1, 0]) (hindcastref11_SameValues_l0_s a0 a1 v0_13_0).st Q' := by
 refine W_fix (σ := Int) (fun m x_ => m ≤ n ∧ recN hindcastref11_SameValues_B m (.l0 a0 a1 x_) = some r_) (fun x_ => hindcastref11_SameValues_l0_s a0 a1 x_) (fun x hx => by cases hx.2) (fun _ _ => rfl) ?_ n (v0_13_0) ⟨Nat.le_refl _, h⟩
 clear h
 rintro m v0_13_0 ⟨hlt, h⟩
 replace h : hindcastref11_SameValues_l0_b (recN hindcastref11_SameValues_B m) a0 a1 v0_13_0 = some r_ := h
 unfold hindcastref11_SameValues_l0_b at h
 refine W_z mixed [(14, aB (decide (v0_13_0 < (a0.length : Int))))] [0, 1, 12, 13] [] c0 [q_] aN (by kernel_rfl) ?_
 refine W_seq ?_
 refine W_cd h (by kernel_rfl) (fun hx1001 h => ?_) (fun hx1001 h => ?_)
 refine W_skip ?_
 refine W_seq ?_
 refine W_block ?_
 refine W_z mixed [(5, aI .i64 v0_13_0)] [0, 1, 12, 13] [] c0 [q_, q_] aN (by kernel_rfl) ?_
 obtain ⟨x6_2, hx6_2, h⟩ := bind_ok h
 obtain ⟨x6_6, hx6_6, h⟩ := bind_ok h
 refine W_z mixed [(24, aB (!(decide (x6_2.Kind = x6_6.Kind) && (decide (x6_2.N = x6_6.N) && (decide (x6_2.Re = x6_6.Re) && decide (x6_2.Im = x6_6.Im))))))] [0, 1, 12, 13] [] c0 [q_, q_, qn (.ix (Int.toNat v0_13_0) (c_GApiValue x6_2)), q_, q_, q_, qn (.ix (Int.toNat v0_13_0) (c_GApiValue x6_6)), q_, qn (.quiet (aB (!(decide (x6_2.Kind = x6_6.Kind) && (decide (x6_2.N = x6_6.N) && (decide (x6_2.Re = x6_6.Re) && decide (x6_2.Im = x6_6.Im)))))))] (aC (ix_obx c_GApiValue hx6_2) (aC (ix_obx c_GApiValue hx6_6) (aC (show Quiet Try.prog (opAt (subC (bodyC Try.prog 55) [1, 1, 0, 1, 0, 0, 1, 1, 0, 0, 1, 0]) 8) [e_GApiValue x6_2, e_GApiValue x6_6] (aB (!(decide (x6_2.Kind = x6_6.Kind) && (decide (x6_2.N = x6_6.N) && (decide (x6_2.Re = x6_6.Re) && decide (x6_2.Im = x6_6.Im)))))) from eqA_ob (P := Try.prog) (ne := true) (xs := [.int .u8 x6_2.Kind, .int .i64 x6_2.N, .int .i64 x6_2.Re, .int .i64 x6_2.Im]) (ys := [.int .u8 x6_6.Kind, .int .i64 x6_6.N, .int .i64 x6_6.Re, .int .i64 x6_6.Im]) (hh := none) ⟨_, by rfl⟩ (by kernel_rfl) (by kernel_rfl)) aN))) (by kernel_rfl) ?_
 refine W_cbn h (by kernel_rfl) (fun hx1002 h => ?_) (fun hx1002 h => ?_)
 refine W_skip ?_
 refine W_zl mixed [(13, aI .i64 (w64 (v0_13_0 + 1)))] [0, 1, 12] [] c0 [q_, q_] aN (by kernel_rfl) ?_
 exact ⟨m, ((w64 (v0_13_0 + 1))), Nat.le_refl _, ⟨Nat.le_of_lt hlt, h⟩, convX_fits (v := (c0 [0, 1, 12, 13])) (by kernel_rfl)⟩
 refine W_z mixed [(4, aB false)] [] [] c0 [q_] aN (by kernel_rfl) ?_
 refine W_ret ?_
 exact kr [] _ _ (by kernel_rfl) (oinj h)
 refine W_exit ?_
 exact k_x_0 m hlt _ h (convX_fits (v := (c0 [])) (by kernel_rfl))
set_option maxRecDepth 100000 in
theorem hindcastref11_SameValues_j1_ok (n : Nat)   (r_ : Bool) (Q' : Exit → St → Prop) (kr : KR Try.prog 55 hindcastref11_SameValues_e r_ .ret Q')  (h : recN hindcastref11_SameValues_B n (.j1 ) = some r_) : W Try.prog (subC (bodyC Try.prog 55) [1, 1, 1]) (hindcastref11_SameValues_j1_s ).st Q' := by
 rcases n with _ | m
 cases h
 have hlt := Nat.lt_succ_self m
 replace h : hindcastref11_SameValues_j1_b (recN hindcastref11_SameValues_B m)  = some r_ := h
 unfold hindcastref11_SameValues_j1_b at h
 refine W_z mixed [(4, aB true)] [] [] c0 [q_] aN (by kernel_rfl) ?_
 refine W_ret ?_
 exact kr [] _ _ (by kernel_rfl) (oinj h)
noncomputable def hindcastref11_SameValues (a0 : (List GApiValue)) (a1 : (List GApiValue)) : Option Bool :=
  (if (a0.length : Int) = (a1.length : Int) then hindcastref11_SameValues_l0 a0 a1 0 else (some false))
set_option maxRecDepth 100000 in
theorem hindcastref11_SameValues_ok {a0 : (List GApiValue)} {a1 : (List GApiValue)} {r_ : Bool} (h : hindcastref11_SameValues a0 a1 = some r_) : R_hindcastref11_SameValues a0 a1 r_ := by
 unfold hindcastref11_SameValues at h
 refine fn_pureZ (enc := hindcastref11_SameValues_e) (by kernel_rfl) fun Q' kr kn => ?_
 refine W_z mixed [] [0, 1] [] c0 [q_] aN (by kernel_rfl) ?_
 refine W_seq ?_
 refine W_z mixed [(10, aB (!(decide ((a0.length : Int) = (a1.length : Int)))))] [0, 1] [] c0 [q_, qn (.len a0.length), q_, qn (.len a1.length), q_] (aC (len_obx c_GApiValue a0) (aC (len_obx c_GApiValue a1) aN)) (by kernel_rfl) ?_
 refine W_cdn h (by kernel_rfl) (fun hx1 h => ?_) (fun hx1 h => ?_)
 refine W_skip ?_
 refine W_seq ?_
 refine W_z mixed [(12, aI .i64 (a0.length : Int)), (13, aI .i64 0)] [0, 1] [] c0 [q_, qn (.len a0.length), q_] (aC (len_obx c_GApiValue a0) aN) (by kernel_rfl) ?_
 refine W_block ?_
 obtain ⟨n, h⟩ := fix_rec h
 exact W_conv (c0 [0, 1, 12, 13]) (by kernel_rfl) (hindcastref11_SameValues_l0_ok n a0 a1 0 r_ _ kr (fun q1 hq1 s' h hf => W_pre hf (hindcastref11_SameValues_j1_ok q1 r_ _ kr h)) h)
 refine W_z mixed [(4, aB false)] [] [] c0 [q_] aN (by kernel_rfl) ?_
 refine W_ret ?_
 exact kr [] _ _ (by kernel_rfl) (oinj h)
def R_hindcastref11_Same (a0 : (List GApiObj)) (a1 : (List GApiObj)) (r : Bool) : Prop := FnP Try.prog 20 [.t (.sl 4 (a0.map c_GApiObj)), .t (.sl 4 (a1.map c_GApiObj))] (aB r)
inductive hindcastref11_Same_C where
  | l0 (a0 : (List GApiObj)) (a1 : (List GApiObj)) (v0_13_0 : Int)
  | j1
abbrev hindcastref11_Same_C_T : hindcastref11_Same_C → Type := fun _ => Bool
noncomputable def hindcastref11_Same_l0_b (g : (i : hindcastref11_Same_C) → Option (hindcastref11_Same_C_T i)) (a0 : (List GApiObj)) (a1 : (List GApiObj)) (v0_13_0 : Int) : Option Bool :=
  (if v0_13_0 < (a0.length : Int) then ((getI a0 v0_13_0).bind fun (x6_2 : GApiObj) => ((getI a1 v0_13_0).bind fun (x6_7 : GApiObj) => (if x6_2.Kind = x6_7.Kind then (if x6_2.Of = x6_7.Of then (if x6_2.Text = x6_7.Text then ((hindcastref11_SameValues x6_2.Vals x6_7.Vals).bind fun (r6_48 : Bool) => (if r6_48 = true then g (.l0 a0 a1 (w64 (v0_13_0 + 1))) else (some false))) else (some false)) else (some false)) else (some false)))) else g (.j1))
noncomputable def hindcastref11_Same_j1_b (g : (i : hindcastref11_Same_C) → Option (hindcastref11_Same_C_T i))  : Option Bool :=
  (some true)
noncomputable def hindcastref11_Same_B (g : (i : hindcastref11_Same_C) → Option (hindcastref11_Same_C_T i)) : (i : hindcastref11_Same_C) → Option (hindcastref11_Same_C_T i)
  | .l0 a0 a1 v0_13_0 => hindcastref11_Same_l0_b g a0 a1 v0_13_0
  | .j1  => hindcastref11_Same_j1_b g
theorem hindcastref11_Same_B_fin (i : hindcastref11_Same_C) : Fin1 (fun g => hindcastref11_Same_B g i) := by
 cases i
 all_goals (delta hindcastref11_Same_B; dsimp only)
 unfold hindcastref11_Same_l0_b; rotate_left
 unfold hindcastref11_Same_j1_b; rotate_left
 all_goals repeat (first | refine fin_bind ?_ (fun _ => ?_) | refine fin_ite ?_ ?_ | refine fin_opt ?_ (fun _ => ?_) | exact fin_ask _ | exact fin_const _)
noncomputable def hindcastref11_Same_l0 (a0 : (List GApiObj)) (a1 : (List GApiObj)) (v0_13_0 : Int) : Option Bool := fixD hindcastref11_Same_B (.l0 a0 a1 v0_13_0)
noncomputable def hindcastref11_Same_j1  : Option Bool := fixD hindcastref11_Same_B (.j1 )
theorem hindcastref11_Same_l0_eq (a0 : (List GApiObj)) (a1 : (List GApiObj)) (v0_13_0 : Int) : hindcastref11_Same_l0 a0 a1 v0_13_0 =
  (if v0_13_0 < (a0.length : Int) then ((getI a0 v0_13_0).bind fun (x6_2 : GApiObj) => ((getI a1 v0_13_0).bind fun (x6_7 : GApiObj) => (if x6_2.Kind = x6_7.Kind then (if x6_2.Of = x6_7.Of then (if x6_2.Text = x6_7.Text then ((hindcastref11_SameValues x6_2.Vals x6_7.Vals).bind fun (r6_48 : Bool) => (if r6_48 = true then hindcastref11_Same_l0 a0 a1 (w64 (v0_13_0 + 1)) else (some false))) else (some false)) else (some false)) else (some false)))) else hindcastref11_Same_j1) := fix_eq hindcastref11_Same_B_fin _
theorem hindcastref11_Same_j1_eq  : hindcastref11_Same_j1  =
  (some true) := fix_eq hindcastref11_Same_B_fin _
abbrev hindcastref11_Same_e (x : Bool) : A := (aB x)
def hindcastref11_Same_l0_s (a0 : (List GApiObj)) (a1 : (List GApiObj)) (v0_13_0 : Int) : LS := LS.mk 68 [(0, .t (.sl 4 (a0.map c_GApiObj))), (1, .t (.sl 4 (a1.map c_GApiObj))), (12, aI .i64 (a0.length : Int)), (13, aI .i64 v0_13_0)] []
def hindcastref11_Same_j1_s  : LS := LS.mk 68 [] []
set_option maxRecDepth 100000 in
theorem hindcastref11_Same_l0_ok (n : Nat)  (a0 : (List GApiObj)) (a1 : (List GApiObj)) (v0_13_0 : Int) (r_ : Bool) (Q' : Exit → St → Prop) (kr : KR Try.prog 20 hindcastref11_Same_e r_ .ret Q') (k_x_0 : KX hindcastref11_Same_B n (.j1 ) r_ (hindcastref11_Same_j1_s ) (.exit 0) Q') (h : recN hindcastref11_Same_B n (.l0 a0 a1 v0_13_0) = some r_) : W Try.prog (subC (bodyC Try.prog 20) [1, 1, 0, 1, 0]) (hindcastref11_Same_l0_s a0 a1 v0_13_0).st Q' := by
 refine W_fix (σ := Int) (fun m x_ => m ≤ n ∧ recN hindcastref11_Same_B m (.l0 a0 a1 x_) = some r_) (fun x_ => hindcastref11_Same_l0_s a0 a1 x_) (fun x hx => by cases hx.2) (fun _ _ => rfl) ?_ n (v0_13_0) ⟨Nat.le_refl _, h⟩
 clear h
 rintro m v0_13_0 ⟨hlt, h⟩
 replace h : hindcastref11_Same_l0_b (recN hindcastref11_Same_B m) a0 a1 v0_13_0 = some r_ := h
 unfold hindcastref11_Same_l0_b at h
 refine W_z mixed [(14, aB (decide (v0_13_0 < (a0.length : Int))))] [0, 1, 12, 13] [] c0 [q_] aN (by kernel_rfl) ?_
 refine W_seq ?_
 refine W_cd h (by kernel_rfl) (fun hx1001 h => ?_) (fun hx1001 h => ?_)
 refine W_skip ?_
 refine W_seq ?_
 refine W_block ?_
 refine W_z mixed [(5, aI .i64 v0_13_0)] [0, 1, 12, 13] [] c0 [q_, q_] aN (by kernel_rfl) ?_
 obtain ⟨x6_2, hx6_2, h⟩ := bind_ok h
 obtain ⟨x6_7, hx6_7, h⟩ := bind_ok h
 refine if_c h (fun hx1002 h => ?_) (fun hx1002 h => ?_)
 refine if_c h (fun hx1003 h => ?_) (fun hx1003 h => ?_)
 refine if_c h (fun hx1004 h => ?_) (fun hx1004 h => ?_)
 obtain ⟨r6_48, hr6_48, h⟩ := bind_ok h
 have hr6_48 := hindcastref11_SameValues_ok hr6_48
 refine W_z mixed [(66, aB (!r6_48))] [0, 1, 12, 13] [] c0 [q_, q_, qn (.ix (Int.toNat v0_13_0) (c_GApiObj x6_2)), q_, q_, q_, q_, qn (.ix (Int.toNat v0_13_0) (c_GApiObj x6_7)), q_, q_, q_, q_, qf0, qf0, qf (.ix (Int.toNat v0_13_0) (c_GApiObj x6_2)), qf0, qf0, qf0, qf0, qf (.ix (Int.toNat v0_13_0) (c_GApiObj x6_7)), qf0, qf0, qf0, qn (.dec false), q_, qf0, qf0, qf (.ix (Int.toNat v0_13_0) (c_GApiObj x6_2)), qf0, qf0, qf0, qf0, qf (.ix (Int.toNat v0_13_0) (c_GApiObj x6_7)), qf0, qf0, qf (.val (.bool (!(decide (x6_2.Text = x6_7.Text))))), qn (.dec false), q_, qf0, qf0, qf (.ix (Int.toNat v0_13_0) (c_GApiObj x6_2)), qf0, qf0, qf0, qf0, qf (.ix (Int.toNat v0_13_0) (c_GApiObj x6_7)), qf0, qf0, qf (.call [] (aB r6_48)), qf0, qn (.dec false)] (aC (ix_obx c_GApiObj hx6_2) (aC (ix_obx c_GApiObj hx6_7) (aC (not_t hx1002) (aC (not_t hx1002) (aC (not_t hx1002) (aC (ix_obx c_GApiObj hx6_2) (aC (not_t hx1002) (aC (not_t hx1002) (aC (not_t hx1002) (aC (not_t hx1002) (aC (not_t hx1002) (aC (ix_obx c_GApiObj hx6_7) (aC (not_t hx1002) (aC (not_t hx1002) (aC (not_t hx1002) (aC (not_t hx1002) (aC (not_t hx1003) (aC (not_t hx1003) (aC (not_t hx1003) (aC (ix_obx c_GApiObj hx6_2) (aC (not_t hx1003) (aC (not_t hx1003) (aC (not_t hx1003) (aC (not_t hx1003) (aC (not_t hx1003) (aC (ix_obx c_GApiObj hx6_7) (aC (not_t hx1003) (aC (not_t hx1003) (aC (not_t hx1003) (aC (str_ne_ob (P := Try.prog) 9 x6_2.Text x6_7.Text) (aC (not_t hx1003) (aC (not_t hx1004) (aC (not_t hx1004) (aC (not_t hx1004) (aC (ix_obx c_GApiObj hx6_2) (aC (not_t hx1004) (aC (not_t hx1004) (aC (not_t hx1004) (aC (not_t hx1004) (aC (not_t hx1004) (aC (ix_obx c_GApiObj hx6_7) (aC (not_t hx1004) (aC (not_t hx1004) (aC (not_t hx1004) (aC hr6_48 (aC (not_t hx1004) (aC (not_t hx1004) aN))))))))))))))))))))))))))))))))))))))))))))))) (by kernel_rfl) ?_
 refine W_cbn h (by kernel_rfl) (fun hx1005 h => ?_) (fun hx1005 h => ?_)
 refine W_skip ?_
 refine W_zl mixed [(13, aI .i64 (w64 (v0_13_0 + 1)))] [0, 1, 12] [] c0 [q_, q_] aN (by kernel_rfl) ?_
 exact ⟨m, ((w64 (v0_13_0 + 1))), Nat.le_refl _, ⟨Nat.le_of_lt hlt, h⟩, convX_fits (v := (c0 [0, 1, 12, 13])) (by kernel_rfl)⟩
 refine W_z mixed [(4, aB false)] [] [] c0 [q_] aN (by kernel_rfl) ?_
 refine W_ret ?_
 exact kr [] _ _ (by kernel_rfl) (oinj h)
 refine W_z mixed [(66, aB true)] [0, 1, 12, 13] [] c0 [q_, q_, qn (.ix (Int.toNat v0_13_0) (c_GApiObj x6_2)), q_, q_, q_, q_, qn (.ix (Int.toNat v0_13_0) (c_GApiObj x6_7)), q_, q_, q_, q_, qf0, qf0, qf (.ix (Int.toNat v0_13_0) (c_GApiObj x6_2)), qf0, qf0, qf0, qf0, qf (.ix (Int.toNat v0_13_0) (c_GApiObj x6_7)), qf0, qf0, qf0, qn (.dec false), q_, qf0, qf0, qf (.ix (Int.toNat v0_13_0) (c_GApiObj x6_2)), qf0, qf0, qf0, qf0, qf (.ix (Int.toNat v0_13_0) (c_GApiObj x6_7)), qf0, qf0, qf (.val (.bool (!(decide (x6_2.Text = x6_7.Text))))), qn (.dec false), q_, qt0, qt0, qt0, qt0, qt0, qt0, qt0, qt0, qt0, qt0, qt0, qt0, qn (.dec true)] (aC (ix_obx c_GApiObj hx6_2) (aC (ix_obx c_GApiObj hx6_7) (aC (not_t hx1002) (aC (not_t hx1002) (aC (not_t hx1002) (aC (ix_obx c_GApiObj hx6_2) (aC (not_t hx1002) (aC (not_t hx1002) (aC (not_t hx1002) (aC (not_t hx1002) (aC (not_t hx1002) (aC (ix_obx c_GApiObj hx6_7) (aC (not_t hx1002) (aC (not_t hx1002) (aC (not_t hx1002) (aC (not_t hx1002) (aC (not_t hx1003) (aC (not_t hx1003) (aC (not_t hx1003) (aC (ix_obx c_GApiObj hx6_2) (aC (not_t hx1003) (aC (not_t hx1003) (aC (not_t hx1003) (aC (not_t hx1003) (aC (not_t hx1003) (aC (ix_obx c_GApiObj hx6_7) (aC (not_t hx1003) (aC (not_t hx1003) (aC (not_t hx1003) (aC (str_ne_ob (P := Try.prog) 9 x6_2.Text x6_7.Text) (aC (not_t hx1003) (aC (not_f hx1004) (aC (not_f hx1004) (aC (not_f hx1004) (aC (not_f hx1004) (aC (not_f hx1004) (aC (not_f hx1004) (aC (not_f hx1004) (aC (not_f hx1004) (aC (not_f hx1004) (aC (not_f hx1004) (aC (not_f hx1004) (aC (not_f hx1004) (aC (not_f hx1004) aN)))))))))))))))))))))))))))))))))))))))))))) (by kernel_rfl) ?_
 refine W_ct (e := true) rfl (by kernel_rfl) ?_
 refine W_z mixed [(4, aB false)] [] [] c0 [q_] aN (by kernel_rfl) ?_
 refine W_ret ?_
 exact kr [] _ _ (by kernel_rfl) (oinj h)
 refine W_z mixed [(66, aB true)] [0, 1, 12, 13] [] c0 (q_ :: q_ :: qn (.ix (Int.toNat v0_13_0) (c_GApiObj x6_2)) :: q_ :: q_ :: q_ :: q_ :: qn (.ix (Int.toNat v0_13_0) (c_GApiObj x6_7)) :: q_ :: q_ :: q_ :: q_ :: qf0 :: qf0 :: qf (.ix (Int.toNat v0_13_0) (c_GApiObj x6_2)) :: qf0 :: qf0 :: qf0 :: qf0 :: qf (.ix (Int.toNat v0_13_0) (c_GApiObj x6_7)) :: qf0 :: qf0 :: qf0 :: qn (.dec false) :: q_ :: qt0 :: qt0 :: qt0 :: qt0 :: qt0 :: qt0 :: qt0 :: qt0 :: qt0 :: qt0 :: qt0 :: qn (.dec true) :: (qz 14 [])) (aC (ix_obx c_GApiObj hx6_2) (aC (ix_obx c_GApiObj hx6_7) (aC (not_t hx1002) (aC (not_t hx1002) (aC (not_t hx1002) (aC (ix_obx c_GApiObj hx6_2) (aC (not_t hx1002) (aC (not_t hx1002) (aC (not_t hx1002) (aC (not_t hx1002) (aC (not_t hx1002) (aC (ix_obx c_GApiObj hx6_7) (aC (not_t hx1002) (aC (not_t hx1002) (aC (not_t hx1002) (aC (not_t hx1002) (aC (not_f hx1003) (aC (not_f hx1003) (aC (not_f hx1003) (aC (not_f hx1003) (aC (not_f hx1003) (aC (not_f hx1003) (aC (not_f hx1003) (aC (not_f hx1003) (aC (not_f hx1003) (aC (not_f hx1003) (aC (not_f hx1003) (aC (not_f hx1003) aN)))))))))))))))))))))))))))) (by kernel_rfl) ?_
 refine W_ct (e := true) rfl (by kernel_rfl) ?_
 refine W_z mixed [(4, aB false)] [] [] c0 [q_] aN (by kernel_rfl) ?_
 refine W_ret ?_
 exact kr [] _ _ (by kernel_rfl) (oinj h)
 refine W_z mixed [(66, aB true)] [0, 1, 12, 13] [] c0 (q_ :: q_ :: qn (.ix (Int.toNat v0_13_0) (c_GApiObj x6_2)) :: q_ :: q_ :: q_ :: q_ :: qn (.ix (Int.toNat v0_13_0) (c_GApiObj x6_7)) :: q_ :: q_ :: q_ :: q_ :: qt0 :: qt0 :: qt0 :: qt0 :: qt0 :: qt0 :: qt0 :: qt0 :: qt0 :: qt0 :: qt0 :: qn (.dec true) :: (qz 27 [])) (aC (ix_obx c_GApiObj hx6_2) (aC (ix_obx c_GApiObj hx6_7) (aC (not_f hx1002) (aC (not_f hx1002) (aC (not_f hx1002) (aC (not_f hx1002) (aC (not_f hx1002) (aC (not_f hx1002) (aC (not_f hx1002) (aC (not_f hx1002) (aC (not_f hx1002) (aC (not_f hx1002) (aC (not_f hx1002) (aC (not_f hx1002) aN)))))))))))))) (by kernel_rfl) ?_
 refine W_ct (e := true) rfl (by kernel_rfl) ?_
 refine W_z mixed [(4, aB false)] [] [] c0 [q_] aN (by kernel_rfl) ?_
 refine W_ret ?_
 exact kr [] _ _ (by kernel_rfl) (oinj h)
 refine W_exit ?_
 exact k_x_0 m hlt _ h (convX_fits (v := (c0 [])) (by kernel_rfl))
set_option maxRecDepth 100000 in
theorem hindcastref11_Same_j1_ok (n : Nat)   (r_ : Bool) (Q' : Exit → St → Prop) (kr : KR Try.prog 20 hindcastref11_Same_e r_ .ret Q')  (h : recN hindcastref11_Same_B n (.j1 ) = some r_) : W Try.prog (subC (bodyC Try.prog 20) [1, 1, 1]) (hindcastref11_Same_j1_s ).st Q' := by
 rcases n with _ | m
 cases h
 have hlt := Nat.lt_succ_self m
 replace h : hindcastref11_Same_j1_b (recN hindcastref11_Same_B m)  = some r_ := h
 unfold hindcastref11_Same_j1_b at h
 refine W_z mixed [(4, aB true)] [] [] c0 [q_] aN (by kernel_rfl) ?_
 refine W_ret ?_
 exact kr [] _ _ (by kernel_rfl) (oinj h)
noncomputable def hindcastref11_Same (a0 : (List GApiObj)) (a1 : (List GApiObj)) : Option Bool :=
  (if (a0.length : Int) = (a1.length : Int) then hindcastref11_Same_l0 a0 a1 0 else (some false))
set_option maxRecDepth 100000 in
theorem hindcastref11_Same_ok {a0 : (List GApiObj)} {a1 : (List GApiObj)} {r_ : Bool} (h : hindcastref11_Same a0 a1 = some r_) : R_hindcastref11_Same a0 a1 r_ := by
 unfold hindcastref11_Same at h
 refine fn_pureZ (enc := hindcastref11_Same_e) (by kernel_rfl) fun Q' kr kn => ?_
 refine W_z mixed [] [0, 1] [] c0 [q_] aN (by kernel_rfl) ?_
 refine W_seq ?_
 refine W_z mixed [(10, aB (!(decide ((a0.length : Int) = (a1.length : Int)))))] [0, 1] [] c0 [q_, qn (.len a0.length), q_, qn (.len a1.length), q_] (aC (len_obx c_GApiObj a0) (aC (len_obx c_GApiObj a1) aN)) (by kernel_rfl) ?_
 refine W_cdn h (by kernel_rfl) (fun hx1 h => ?_) (fun hx1 h => ?_)
 refine W_skip ?_
 refine W_seq ?_
 refine W_z mixed [(12, aI .i64 (a0.length : Int)), (13, aI .i64 0)] [0, 1] [] c0 [q_, qn (.len a0.length), q_] (aC (len_obx c_GApiObj a0) aN) (by kernel_rfl) ?_
 refine W_block ?_
 obtain ⟨n, h⟩ := fix_rec h
 exact W_conv (c0 [0, 1, 12, 13]) (by kernel_rfl) (hindcastref11_Same_l0_ok n a0 a1 0 r_ _ kr (fun q1 hq1 s' h hf => W_pre hf (hindcastref11_Same_j1_ok q1 r_ _ kr h)) h)
 refine W_z mixed [(4, aB false)] [] [] c0 [q_] aN (by kernel_rfl) ?_
 refine W_ret ?_
 exact kr [] _ _ (by kernel_rfl) (oinj h)
def R_hindcastlaw13_OperBin (a0 : Int) (a1 : (List GApiObj)) (a2 : Int) (a3 : GApiValue) (a4 : GApiValue) (r : Bool) : Prop := FnP Try.prog 6 [aI .i64 a0, .t (.sl 4 (a1.map c_GApiObj)), aI .i64 a2, e_GApiValue a3, e_GApiValue a4] (aB r)
abbrev hindcastlaw13_OperBin_e (x : Bool) : A := (aB x)
noncomputable def hindcastlaw13_OperBin_j0  : Option Bool :=
  ((hindcastlaw13_awake).bind fun (r3_0 : Bool) => (some r3_0))
def hindcastlaw13_OperBin_j0_s  : LS := LS.mk 83 [] []
set_option maxRecDepth 100000 in
theorem hindcastlaw13_OperBin_j0_ok  (r_ : Bool) (Q' : Exit → St → Prop) (kr : KR Try.prog 6 hindcastlaw13_OperBin_e r_ .ret Q')  (h : hindcastlaw13_OperBin_j0  = some r_) : W Try.prog (subC (bodyC Try.prog 6) [1, 1, 0, 1, 0]) (hindcastlaw13_OperBin_j0_s ).st Q' := by
 unfold hindcastlaw13_OperBin_j0 at h
 obtain ⟨r3_0, hr3_0, h⟩ := bind_ok h
 have hr3_0 := hindcastlaw13_awake_ok hr3_0
 refine W_z mixed [(10, aB r3_0)] [] [] c0 [qn (.call [] (aB r3_0)), q_] (aC hr3_0 aN) (by kernel_rfl) ?_
 refine W_ret ?_
 exact kr [] _ _ (by kernel_rfl) (oinj h)
noncomputable def hindcastlaw13_OperBin (a0 : Int) (a1 : (List GApiObj)) (a2 : Int) (a3 : GApiValue) (a4 : GApiValue) : Option Bool :=
  ((hindcastlaw13_loaded a0 a1).bind fun (r1_2 : ((Option GHeapHeap) × GHindcastref13W × Bool)) => optCase r1_2.1 (if r1_2.2.2 = true then none else hindcastlaw13_OperBin_j0) fun (y1_2 : GHeapHeap) => (if r1_2.2.2 = true then ((oper_Bin y1_2 a2 a3 a4).bind fun (r4_4 : (GApiValue × Int × Bool × GHeapHeap)) => ((hindcastref13_W_Bin r1_2.2.1 a2 a3 a4).bind fun (r5_4 : (GApiValue × Int × Bool × GHindcastref13W)) => (if (decide (r4_4.1.Kind = r5_4.1.Kind) && (decide (r4_4.1.N = r5_4.1.N) && (decide (r4_4.1.Re = r5_4.1.Re) && decide (r4_4.1.Im = r5_4.1.Im)))) = true then (if (w64 r4_4.2.1) = r5_4.2.1 then (if (r4_4.2.2.1 == r5_4.2.2.1) = true then ((xheap_Heap_Cells r4_4.2.2.2).bind fun (r6_16 : Int) => (if r6_16 = r5_4.2.2.2.H.Cells then ((xheap_Heap_All r4_4.2.2.2).bind fun (r6_24 : (List GApiObj)) => ((hindcastref11_Same r6_24 r5_4.2.2.2.H.L).bind fun (r6_28 : Bool) => (if r6_28 = true then ((hindcastlaw13_awake).bind fun (r6_31 : Bool) => (some r6_31)) else (some false)))) else (some false))) else (some false)) else (some false)) else (some false)))) else hindcastlaw13_OperBin_j0))
set_option maxRecDepth 100000 in
theorem hindcastlaw13_OperBin_ok {a0 : Int} {a1 : (List GApiObj)} {a2 : Int} {a3 : GApiValue} {a4 : GApiValue} {r_ : Bool} (h : hindcastlaw13_OperBin a0 a1 a2 a3 a4 = some r_) : R_hindcastlaw13_OperBin a0 a1 a2 a3 a4 r_ := by
 unfold hindcastlaw13_OperBin at h
 refine fn_pureZ (enc := hindcastlaw13_OperBin_e) (by kernel_rfl) fun Q' kr kn => ?_
 refine W_z mixed [(8, .ptr 8 0), (9, .ptr 9 0)] [0, 1, 2] [(8, some (.box 23 [aI .u8 a3.Kind, aI .i64 a3.N, aI .i64 a3.Re, aI .i64 a3.Im])), (9, some (.box 23 [aI .u8 a4.Kind, aI .i64 a4.N, aI .i64 a4.Re, aI .i64 a4.Im]))] (cB [8, 9] []) [q_, q_, q_] aN (by kernel_rfl) ?_
 obtain ⟨r1_2, hr1_2, h⟩ := bind_ok h
 have hr1_2 := hindcastlaw13_loaded_ok hr1_2
 unfold RI_hindcastlaw13_loaded at hr1_2
 rcases hc_y1_2 : r1_2.1 with _ | y1_2
 rw [hc_y1_2] at hr1_2
 have h := oc_nx hc_y1_2 h
 refine W_z mixed [(11, aPnil), (12, .ptr 12 0), (13, aB r1_2.2.2)] [2, 8, 9] [k_ 8, k_ 9, (12, some (.box 44 [aI .i64 r1_2.2.1.H.Room, aI .i64 r1_2.2.1.H.Cells, .ref 101202, .t (.sl 1 (r1_2.2.1.In.map c_i64)), .t (.sl 1 (r1_2.2.1.Draws.map c_i64)), aI .i64 r1_2.2.1.Read, aI .i64 r1_2.2.1.Drawn])), (101202, some (.row 100 4 (r1_2.2.1.H.L.map c_GApiObj)))] (cG [] [8, 9, 12] [] [(24, 101202)] [] []) (q_ :: q_ :: qn (.io ⟨[], [], [], [], [], [], [(800102, 24)]⟩ (.tup [aPnil, .agg [aI .i64 r1_2.2.1.H.Room, aI .i64 r1_2.2.1.H.Cells, .ref 800102, .t (.sl 1 (r1_2.2.1.In.map c_i64)), .t (.sl 1 (r1_2.2.1.Draws.map c_i64)), aI .i64 r1_2.2.1.Read, aI .i64 r1_2.2.1.Drawn], aB r1_2.2.2]) [(800102, .row 100 4 (r1_2.2.1.H.L.map c_GApiObj))]) :: (qz 8 [])) (aC hr1_2 aN) (by kernel_rfl) ?_
 refine W_seq ?_
 refine W_z mixed [(29, aB (!r1_2.2.2))] [2, 8, 9, 11, 12] [k_ 8, k_ 9, k_ 12, k_ 101202] (cB [8, 9, 12] [101202]) [q_, q_] aN (by kernel_rfl) ?_
 refine W_cbn h (by kernel_rfl) (fun hx1 h => ?_) (fun hx1 h => ?_)
 refine W_skip ?_
 cases h
 exact W_conv (c0 []) (by kernel_rfl) (hindcastlaw13_OperBin_j0_ok r_ _ kr h)
 rw [hc_y1_2] at hr1_2
 have h := oc_sx hc_y1_2 h
 refine W_z mixed [(11, .ob 1011), (12, .ptr 12 0), (13, aB r1_2.2.2)] [2, 8, 9] [k_ 8, k_ 9, (12, some (.box 44 [aI .i64 r1_2.2.1.H.Room, aI .i64 r1_2.2.1.H.Cells, .ref 101202, .t (.sl 1 (r1_2.2.1.In.map c_i64)), .t (.sl 1 (r1_2.2.1.Draws.map c_i64)), aI .i64 r1_2.2.1.Read, aI .i64 r1_2.2.1.Drawn])), (101202, some (.row 100 4 (r1_2.2.1.H.L.map c_GApiObj))), (1011, some (.obj (.any (rep_GHeapHeap y1_2))))] (cG [] [8, 9, 12] [] [(24, 101202), (1024000, 1011)] [] []) (q_ :: q_ :: qn (.io ⟨[], [], [], [], [], [], [(800102, 24), (700000, 1024000)]⟩ (.tup [.ob 700000, .agg [aI .i64 r1_2.2.1.H.Room, aI .i64 r1_2.2.1.H.Cells, .ref 800102, .t (.sl 1 (r1_2.2.1.In.map c_i64)), .t (.sl 1 (r1_2.2.1.Draws.map c_i64)), aI .i64 r1_2.2.1.Read, aI .i64 r1_2.2.1.Drawn], aB r1_2.2.2]) [(700000, .obj (.any (rep_GHeapHeap y1_2))), (800102, .row 100 4 (r1_2.2.1.H.L.map c_GApiObj))]) :: (qz 8 [])) (aC hr1_2 aN) (by kernel_rfl) ?_
 refine W_seq ?_
 refine W_z mixed [(29, aB (!r1_2.2.2))] [2, 8, 9, 11, 12] [k_ 8, k_ 9, k_ 12, k_ 1011, k_ 101202] (cB [8, 9, 12] [1011, 101202]) [q_, q_] aN (by kernel_rfl) ?_
 refine W_cbn h (by kernel_rfl) (fun hx2 h => ?_) (fun hx2 h => ?_)
 refine W_skip ?_
 obtain ⟨r4_4, hr4_4, h⟩ := bind_ok h
 have hr4_4 := oper_Bin_ok hr4_4
 refine W_z mixed [(14, .ptr 14 0), (15, aI .u8 r4_4.2.1), (16, aB r4_4.2.2.1)] [2, 8, 9, 11, 12] [k_ 8, k_ 9, k_ 12, (14, some (.box 23 [aI .u8 r4_4.1.Kind, aI .i64 r4_4.1.N, aI .i64 r4_4.1.Re, aI .i64 r4_4.1.Im])), (1011, some (.obj (.any (rep_GHeapHeap r4_4.2.2.2)))), k_ 101202] (cB [8, 9, 12, 14] [1011, 101202]) (q_ :: q_ :: q_ :: q_ :: qn (.io ⟨[], [(1011, 900)], [], [], [], [], [(900, 1011)]⟩ (.tup [e_GApiValue r4_4.1, aI .u8 r4_4.2.1, aB r4_4.2.2.1]) [(900, .obj (.any (rep_GHeapHeap r4_4.2.2.2)))]) :: (qz 8 [])) (aC hr4_4 aN) (by kernel_rfl) ?_
 obtain ⟨r5_4, hr5_4, h⟩ := bind_ok h
 have hr5_4 := hindcastref13_W_Bin_ok hr5_4
 refine W_z mixed [(17, .ptr 17 0), (18, aI .i64 r5_4.2.1), (19, aB r5_4.2.2.1), (20, .ptr 20 0)] [11, 14, 15, 16] [k_ 14, (17, some (.box 23 [aI .u8 r5_4.1.Kind, aI .i64 r5_4.1.N, aI .i64 r5_4.1.Re, aI .i64 r5_4.1.Im])), (20, some (.box 44 [aI .i64 r5_4.2.2.2.H.Room, aI .i64 r5_4.2.2.2.H.Cells, .t (.sl 4 (r5_4.2.2.2.H.L.map c_GApiObj)), .t (.sl 1 (r5_4.2.2.2.In.map c_i64)), .t (.sl 1 (r5_4.2.2.2.Draws.map c_i64)), aI .i64 r5_4.2.2.2.Read, aI .i64 r5_4.2.2.2.Drawn])), k_ 1011] (cB [14, 17, 20] [1011]) (q_ :: q_ :: q_ :: q_ :: (none, [101202], .call [] (.tup [e_GApiValue r5_4.1, aI .i64 r5_4.2.1, aB r5_4.2.2.1, e_GHindcastref13W r5_4.2.2.2])) :: (qz 11 [])) (aC hr5_4 aN) (by kernel_rfl) ?_
 refine ib_c h (fun hx3 h => ?_) (fun hx3 h => ?_)
 refine if_c h (fun hx4 h => ?_) (fun hx4 h => ?_)
 refine ib_c h (fun hx5 h => ?_) (fun hx5 h => ?_)
 obtain ⟨r6_16, hr6_16, h⟩ := bind_ok h
 have hr6_16 := xheap_Heap_Cells_ok hr6_16
 refine if_c h (fun hx6 h => ?_) (fun hx6 h => ?_)
 obtain ⟨r6_24, hr6_24, h⟩ := bind_ok h
 have hr6_24 := xheap_Heap_All_ok hr6_24
 obtain ⟨r6_28, hr6_28, h⟩ := bind_ok h
 have hr6_28 := hindcastref11_Same_ok hr6_28
 refine ib_c h (fun hx7 h => ?_) (fun hx7 h => ?_)
 obtain ⟨r6_31, hr6_31, h⟩ := bind_ok h
 have hr6_31 := hindcastlaw13_awake_ok hr6_31
 refine W_z mixed [(10, aB r6_31)] [] [] c0 [q_, q_, qn (.quiet (aB (decide (r4_4.1.Kind = r5_4.1.Kind) && (decide (r4_4.1.N = r5_4.1.N) && (decide (r4_4.1.Re = r5_4.1.Re) && decide (r4_4.1.Im = r5_4.1.Im)))))), q_, qt0, qt0, qt0, qt0, qn (.dec true), q_, qt0, qt0, qt0, qn (.dec true), q_, qt0, qt (.io ⟨[], [(1011, 900)], [], [], [], [], [(900, 1011)]⟩ (aI .i64 r6_16) [(900, .obj (.any (rep_GHeapHeap r4_4.2.2.2)))]), qt0, qt0, qt0, qt0, qn (.dec true), q_, qt0, qt (.io ⟨[], [(1011, 900)], [], [], [], [], [(900, 1011), (800000, 74)]⟩ (.ref 800000) [(900, .obj (.any (rep_GHeapHeap r4_4.2.2.2))), (800000, .row 100 4 (r6_24.map c_GApiObj))]), qt0, qt0, qt0, qt (.call [] (aB r6_28)), qn (.dec true), q_, qt (.call [] (aB r6_31)), qn (.dec true), q_] (aC (show Quiet Try.prog (opAt (subC (bodyC Try.prog 6) [1, 1, 1, 1, 1, 0]) 2) [e_GApiValue r4_4.1, e_GApiValue r5_4.1] (aB (decide (r4_4.1.Kind = r5_4.1.Kind) && (decide (r4_4.1.N = r5_4.1.N) && (decide (r4_4.1.Re = r5_4.1.Re) && decide (r4_4.1.Im = r5_4.1.Im))))) from eqA_ob (P := Try.prog) (ne := false) (xs := [.int .u8 r4_4.1.Kind, .int .i64 r4_4.1.N, .int .i64 r4_4.1.Re, .int .i64 r4_4.1.Im]) (ys := [.int .u8 r5_4.1.Kind, .int .i64 r5_4.1.N, .int .i64 r5_4.1.Re, .int .i64 r5_4.1.Im]) (hh := none) ⟨_, by rfl⟩ (by kernel_rfl) (by kernel_rfl)) (aC hx3 (aC hx3 (aC hx3 (aC hx3 (aC hx3 (aC hx4 (aC hx4 (aC hx4 (aC hx4 (aC hx5 (aC hx5 (aC hr6_16 (aC hx5 (aC hx5 (aC hx5 (aC hx5 (aC hx5 (aC hx6 (aC hx6 (aC hr6_24 (aC hx6 (aC hx6 (aC hx6 (aC hx6 (aC hr6_28 (aC hx6 (aC hx7 (aC hr6_31 (aC hx7 aN)))))))))))))))))))))))))))))) (by kernel_rfl) ?_
 refine W_ret ?_
 exact kr [] _ _ (by kernel_rfl) (oinj h)
 refine W_z mixed [(10, aB false)] [] [] c0 [q_, q_, qn (.quiet (aB (decide (r4_4.1.Kind = r5_4.1.Kind) && (decide (r4_4.1.N = r5_4.1.N) && (decide (r4_4.1.Re = r5_4.1.Re) && decide (r4_4.1.Im = r5_4.1.Im)))))), q_, qt0, qt0, qt0, qt0, qn (.dec true), q_, qt0, qt0, qt0, qn (.dec true), q_, qt0, qt (.io ⟨[], [(1011, 900)], [], [], [], [], [(900, 1011)]⟩ (aI .i64 r6_16) [(900, .obj (.any (rep_GHeapHeap r4_4.2.2.2)))]), qt0, qt0, qt0, qt0, qn (.dec true), q_, qt0, qt (.io ⟨[], [(1011, 900)], [], [], [], [], [(900, 1011), (800000, 74)]⟩ (.ref 800000) [(900, .obj (.any (rep_GHeapHeap r4_4.2.2.2))), (800000, .row 100 4 (r6_24.map c_GApiObj))]), qt0, qt0, qt0, qt (.call [] (aB r6_28)), qn (.dec true), q_, qf0, qn (.dec false), q_] (aC (show Quiet Try.prog (opAt (subC (bodyC Try.prog 6) [1, 1, 1, 1, 1, 0]) 2) [e_GApiValue r4_4.1, e_GApiValue r5_4.1] (aB (decide (r4_4.1.Kind = r5_4.1.Kind) && (decide (r4_4.1.N = r5_4.1.N) && (decide (r4_4.1.Re = r5_4.1.Re) && decide (r4_4.1.Im = r5_4.1.Im))))) from eqA_ob (P := Try.prog) (ne := false) (xs := [.int .u8 r4_4.1.Kind, .int .i64 r4_4.1.N, .int .i64 r4_4.1.Re, .int .i64 r4_4.1.Im]) (ys := [.int .u8 r5_4.1.Kind, .int .i64 r5_4.1.N, .int .i64 r5_4.1.Re, .int .i64 r5_4.1.Im]) (hh := none) ⟨_, by rfl⟩ (by kernel_rfl) (by kernel_rfl)) (aC hx3 (aC hx3 (aC hx3 (aC hx3 (aC hx3 (aC hx4 (aC hx4 (aC hx4 (aC hx4 (aC hx5 (aC hx5 (aC hr6_16 (aC hx5 (aC hx5 (aC hx5 (aC hx5 (aC hx5 (aC hx6 (aC hx6 (aC hr6_24 (aC hx6 (aC hx6 (aC hx6 (aC hx6 (aC hr6_28 (aC hx6 (aC hx7 (aC hx7 aN))))))))))))))))))))))))))))) (by kernel_rfl) ?_
 refine W_ret ?_
 exact kr [] _ _ (by kernel_rfl) (oinj h)
 refine W_z mixed [(10, aB false)] [] [] c0 [q_, q_, qn (.quiet (aB (decide (r4_4.1.Kind = r5_4.1.Kind) && (decide (r4_4.1.N = r5_4.1.N) && (decide (r4_4.1.Re = r5_4.1.Re) && decide (r4_4.1.Im = r5_4.1.Im)))))), q_, qt0, qt0, qt0, qt0, qn (.dec true), q_, qt0, qt0, qt0, qn (.dec true), q_, qt0, qt (.io ⟨[], [(1011, 900)], [], [], [], [], [(900, 1011)]⟩ (aI .i64 r6_16) [(900, .obj (.any (rep_GHeapHeap r4_4.2.2.2)))]), qt0, qt0, qt0, qt0, qn (.dec true), q_, qf0, qf0, qf0, qf0, qf0, qf0, qn (.dec false), q_, q_, q_, q_] (aC (show Quiet Try.prog (opAt (subC (bodyC Try.prog 6) [1, 1, 1, 1, 1, 0]) 2) [e_GApiValue r4_4.1, e_GApiValue r5_4.1] (aB (decide (r4_4.1.Kind = r5_4.1.Kind) && (decide (r4_4.1.N = r5_4.1.N) && (decide (r4_4.1.Re = r5_4.1.Re) && decide (r4_4.1.Im = r5_4.1.Im))))) from eqA_ob (P := Try.prog) (ne := false) (xs := [.int .u8 r4_4.1.Kind, .int .i64 r4_4.1.N, .int .i64 r4_4.1.Re, .int .i64 r4_4.1.Im]) (ys := [.int .u8 r5_4.1.Kind, .int .i64 r5_4.1.N, .int .i64 r5_4.1.Re, .int .i64 r5_4.1.Im]) (hh := none) ⟨_, by rfl⟩ (by kernel_rfl) (by kernel_rfl)) (aC hx3 (aC hx3 (aC hx3 (aC hx3 (aC hx3 (aC hx4 (aC hx4 (aC hx4 (aC hx4 (aC hx5 (aC hx5 (aC hr6_16 (aC hx5 (aC hx5 (aC hx5 (aC hx5 (aC hx5 (aC hx6 (aC hx6 (aC hx6 (aC hx6 (aC hx6 (aC hx6 (aC hx6 aN))))))))))))))))))))))))) (by kernel_rfl) ?_
 refine W_ret ?_
 exact kr [] _ _ (by kernel_rfl) (oinj h)
 refine W_z mixed [(10, aB false)] [] [] c0 (q_ :: q_ :: qn (.quiet (aB (decide (r4_4.1.Kind = r5_4.1.Kind) && (decide (r4_4.1.N = r5_4.1.N) && (decide (r4_4.1.Re = r5_4.1.Re) && decide (r4_4.1.Im = r5_4.1.Im)))))) :: q_ :: qt0 :: qt0 :: qt0 :: qt0 :: qn (.dec true) :: q_ :: qt0 :: qt0 :: qt0 :: qn (.dec true) :: q_ :: qf0 :: qf0 :: qf0 :: qf0 :: qf0 :: qf0 :: qn (.dec false) :: (qz 12 [])) (aC (show Quiet Try.prog (opAt (subC (bodyC Try.prog 6) [1, 1, 1, 1, 1, 0]) 2) [e_GApiValue r4_4.1, e_GApiValue r5_4.1] (aB (decide (r4_4.1.Kind = r5_4.1.Kind) && (decide (r4_4.1.N = r5_4.1.N) && (decide (r4_4.1.Re = r5_4.1.Re) && decide (r4_4.1.Im = r5_4.1.Im))))) from eqA_ob (P := Try.prog) (ne := false) (xs := [.int .u8 r4_4.1.Kind, .int .i64 r4_4.1.N, .int .i64 r4_4.1.Re, .int .i64 r4_4.1.Im]) (ys := [.int .u8 r5_4.1.Kind, .int .i64 r5_4.1.N, .int .i64 r5_4.1.Re, .int .i64 r5_4.1.Im]) (hh := none) ⟨_, by rfl⟩ (by kernel_rfl) (by kernel_rfl)) (aC hx3 (aC hx3 (aC hx3 (aC hx3 (aC hx3 (aC hx4 (aC hx4 (aC hx4 (aC hx4 (aC hx5 (aC hx5 (aC hx5 (aC hx5 (aC hx5 (aC hx5 (aC hx5 aN))))))))))))))))) (by kernel_rfl) ?_
 refine W_ret ?_
 exact kr [] _ _ (by kernel_rfl) (oinj h)
 refine W_z mixed [(10, aB false)] [] [] c0 (q_ :: q_ :: qn (.quiet (aB (decide (r4_4.1.Kind = r5_4.1.Kind) && (decide (r4_4.1.N = r5_4.1.N) && (decide (r4_4.1.Re = r5_4.1.Re) && decide (r4_4.1.Im = r5_4.1.Im)))))) :: q_ :: qt0 :: qt0 :: qt0 :: qt0 :: qn (.dec true) :: q_ :: qf0 :: qf0 :: qf0 :: qn (.dec false) :: (qz 20 [])) (aC (show Quiet Try.prog (opAt (subC (bodyC Try.prog 6) [1, 1, 1, 1, 1, 0]) 2) [e_GApiValue r4_4.1, e_GApiValue r5_4.1] (aB (decide (r4_4.1.Kind = r5_4.1.Kind) && (decide (r4_4.1.N = r5_4.1.N) && (decide (r4_4.1.Re = r5_4.1.Re) && decide (r4_4.1.Im = r5_4.1.Im))))) from eqA_ob (P := Try.prog) (ne := false) (xs := [.int .u8 r4_4.1.Kind, .int .i64 r4_4.1.N, .int .i64 r4_4.1.Re, .int .i64 r4_4.1.Im]) (ys := [.int .u8 r5_4.1.Kind, .int .i64 r5_4.1.N, .int .i64 r5_4.1.Re, .int .i64 r5_4.1.Im]) (hh := none) ⟨_, by rfl⟩ (by kernel_rfl) (by kernel_rfl)) (aC hx3 (aC hx3 (aC hx3 (aC hx3 (aC hx3 (aC hx4 (aC hx4 (aC hx4 (aC hx4 aN)))))))))) (by kernel_rfl) ?_
 refine W_ret ?_
 exact kr [] _ _ (by kernel_rfl) (oinj h)
 refine W_z mixed [(10, aB false)] [] [] c0 (q_ :: q_ :: qn (.quiet (aB (decide (r4_4.1.Kind = r5_4.1.Kind) && (decide (r4_4.1.N = r5_4.1.N) && (decide (r4_4.1.Re = r5_4.1.Re) && decide (r4_4.1.Im = r5_4.1.Im)))))) :: q_ :: qf0 :: qf0 :: qf0 :: qf0 :: qn (.dec false) :: (qz 25 [])) (aC (show Quiet Try.prog (opAt (subC (bodyC Try.prog 6) [1, 1, 1, 1, 1, 0]) 2) [e_GApiValue r4_4.1, e_GApiValue r5_4.1] (aB (decide (r4_4.1.Kind = r5_4.1.Kind) && (decide (r4_4.1.N = r5_4.1.N) && (decide (r4_4.1.Re = r5_4.1.Re) && decide (r4_4.1.Im = r5_4.1.Im))))) from eqA_ob (P := Try.prog) (ne := false) (xs := [.int .u8 r4_4.1.Kind, .int .i64 r4_4.1.N, .int .i64 r4_4.1.Re, .int .i64 r4_4.1.Im]) (ys := [.int .u8 r5_4.1.Kind, .int .i64 r5_4.1.N, .int .i64 r5_4.1.Re, .int .i64 r5_4.1.Im]) (hh := none) ⟨_, by rfl⟩ (by kernel_rfl) (by kernel_rfl)) (aC hx3 (aC hx3 (aC hx3 (aC hx3 (aC hx3 aN)))))) (by kernel_rfl) ?_
 refine W_ret ?_
 exact kr [] _ _ (by kernel_rfl) (oinj h)
 exact W_conv (c0 []) (by kernel_rfl) (hindcastlaw13_OperBin_j0_ok r_ _ kr h)
inductive oper_Built_C where
  | l0 (a2 : Int) (a3 : (List GApiValue)) (r1_1 : ((List Int) × Bool)) (v0_36_0 : Int) (a1 : GOperFeed) (a0 : GHeapHeap)
  | j1 (a2 : Int) (a3 : (List GApiValue)) (a1 : GOperFeed) (a0 : GHeapHeap)
inductive oper_Built_n_C where
  | l0 (a2 : Int) (a3 : (List GApiValue)) (r1_1 : ((List Int) × Bool)) (v0_36_0 : Int) (a0 : GHeapHeap)
  | j1 (a2 : Int) (a3 : (List GApiValue)) (a0 : GHeapHeap)
end Go.Proofs.Ytmffhifkdbfbfaa
