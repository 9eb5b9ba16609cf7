/- Parts of the proof. -/
import Derived.Test.YtmffhifkdbfbfaaJoHpLoad2
import Derived.Test.YtmffhifkdbfbfaaJoNumOver
import Derived.Test.YtmffhifkdbfbfaaJoXFl
namespace Go.Proofs.Ytmffhifkdbfbfaa
open Go.RowKit
set_option linter.unusedVariables false
set_option maxHeartbeats 4000000
def R_oper_integer (a0 : Int) (r : GApiValue) : Prop := FnP Try.prog 26 [aI .i64 a0] (e_GApiValue r)
abbrev oper_integer_e (x : GApiValue) : A := (e_GApiValue x)
noncomputable def oper_integer (a0 : Int) : Option GApiValue :=
  (some (GApiValue.mk 1 a0 0 0))
set_option maxRecDepth 100000 in
theorem oper_integer_ok {a0 : Int} {r_ : GApiValue} (h : oper_integer a0 = some r_) : R_oper_integer a0 r_ := by
 unfold oper_integer at h
 refine fn_pureZ (enc := oper_integer_e) (by kernel_rfl) fun Q' kr kn => ?_
 refine W_z mixed [(2, .ptr 2 0)] [0] [(2, some (.box 23 [aI .u8 0, aI .i64 0, aI .i64 0, aI .i64 0]))] (cB [2] []) [q_] aN (by kernel_rfl) ?_
 refine W_z mixed [] [2] [(2, some (.box 23 [aI .u8 1, aI .i64 a0, aI .i64 0, aI .i64 0]))] (cB [2] []) [q_, q_, q_] aN (by kernel_rfl) ?_
 refine W_ret ?_
 exact kr [] _ _ (by kernel_rfl) (oinj h)
def R_oper_value (a0 : GApiComp) (r : GApiValue) : Prop := FnP Try.prog 28 [e_GApiComp a0] (e_GApiValue r)
abbrev oper_value_e (x : GApiValue) : A := (e_GApiValue x)
noncomputable def oper_value (a0 : GApiComp) : Option GApiValue :=
  (some (GApiValue.mk 4 0 a0.Re a0.Im))
set_option maxRecDepth 100000 in
theorem oper_value_ok {a0 : GApiComp} {r_ : GApiValue} (h : oper_value a0 = some r_) : R_oper_value a0 r_ := by
 unfold oper_value at h
 refine fn_pureZ (enc := oper_value_e) (by kernel_rfl) fun Q' kr kn => ?_
 refine W_z mixed [(1, .ptr 1 0), (2, .ptr 2 0)] [] [(1, some (.box 69 [aI .i64 a0.Re, aI .i64 a0.Im])), (2, some (.box 23 [aI .u8 0, aI .i64 0, aI .i64 0, aI .i64 0]))] (cB [1, 2] []) [q_, q_] aN (by kernel_rfl) ?_
 refine W_z mixed [] [2] [(2, some (.box 23 [aI .u8 4, aI .i64 0, aI .i64 a0.Re, aI .i64 a0.Im]))] (cB [2] []) (qz 6 []) aN (by kernel_rfl) ?_
 refine W_ret ?_
 exact kr [] _ _ (by kernel_rfl) (oinj h)
def R_num_Round (a0 : Int) (a1 : Int) (r : (Int × Bool)) : Prop := FnP Try.prog 100 [aI .i64 a0, aI .i64 a1] (.tup [aI .i64 r.1, aB r.2])
abbrev num_Round_e (x : (Int × Bool)) : A := (.tup [aI .i64 x.1, aB x.2])
noncomputable def num_Round (a0 : Int) (a1 : Int) : Option (Int × Bool) :=
  (if a1 < 1 then (some (0, false)) else (if a1 > 64 then (some (0, false)) else (if (0 : Int) ≤ (IntKind.wrap .u64 (w64 (64 - a1))) then (if (0 : Int) ≤ (IntKind.wrap .u64 (w64 (64 - a1))) then (some ((Int.fdiv (w64 (a0 * 2 ^ (min (Int.toNat (IntKind.wrap .u64 (w64 (64 - a1)))) 64))) (2 ^ (min (Int.toNat (IntKind.wrap .u64 (w64 (64 - a1)))) 64))), true)) else none) else none)))
set_option maxRecDepth 100000 in
theorem num_Round_ok {a0 : Int} {a1 : Int} {r_ : (Int × Bool)} (h : num_Round a0 a1 = some r_) : R_num_Round a0 a1 r_ := by
 unfold num_Round at h
 refine fn_pureZ (enc := num_Round_e) (by kernel_rfl) fun Q' kr kn => ?_
 refine W_z mixed [] [0, 1] [] c0 [q_, q_] aN (by kernel_rfl) ?_
 refine W_seq ?_
 refine if_c h (fun hx1 h => ?_) (fun hx1 h => ?_)
 refine W_z mixed [(12, aB true)] [0, 1] [] c0 [q_, q_, q_, qt0, qt0, qn (.dec true)] (aC hx1 (aC hx1 (aC hx1 aN))) (by kernel_rfl) ?_
 refine W_ct (e := true) rfl (by kernel_rfl) ?_
 refine W_z mixed [(4, aI .i64 0), (5, aB false)] [] [] c0 [q_, q_] aN (by kernel_rfl) ?_
 refine W_ret ?_
 exact kr [] _ _ (by kernel_rfl) (oinj h)
 refine W_z mixed [(12, aB (decide (a1 > 64)))] [0, 1] [] c0 [q_, q_, q_, qf0, qf0, qn (.dec false)] (aC hx1 (aC hx1 (aC hx1 aN))) (by kernel_rfl) ?_
 refine W_cd h (by kernel_rfl) (fun hx2 h => ?_) (fun hx2 h => ?_)
 refine W_z mixed [(4, aI .i64 0), (5, aB false)] [] [] c0 [q_, q_] aN (by kernel_rfl) ?_
 refine W_ret ?_
 exact kr [] _ _ (by kernel_rfl) (oinj h)
 refine W_skip ?_
 refine W_z mixed [(6, aI .u64 (IntKind.wrap .u64 (w64 (64 - a1))))] [0] [] c0 (qz 4 []) aN (by kernel_rfl) ?_
 obtain ⟨hd3, h⟩ := ite_ok h
 obtain ⟨hd4, h⟩ := ite_ok h
 refine W_z mixed [(4, aI .i64 (Int.fdiv (w64 (a0 * 2 ^ (min (Int.toNat (IntKind.wrap .u64 (w64 (64 - a1)))) 64))) (2 ^ (min (Int.toNat (IntKind.wrap .u64 (w64 (64 - a1)))) 64)))), (5, aB true)] [] [] c0 [q_, q_, qn (.val (.int .i64 (w64 (a0 * 2 ^ (min (Int.toNat (IntKind.wrap .u64 (w64 (64 - a1)))) 64))))), q_, qn (.val (.int .i64 (Int.fdiv (w64 (a0 * 2 ^ (min (Int.toNat (IntKind.wrap .u64 (w64 (64 - a1)))) 64))) (2 ^ (min (Int.toNat (IntKind.wrap .u64 (w64 (64 - a1)))) 64))))), q_, q_] (aC (show BinOb Try.prog .shl 2 (.int .i64 a0) (.int .u64 (IntKind.wrap .u64 (w64 (64 - a1)))) (.int .i64 (w64 (a0 * 2 ^ (min (Int.toNat (IntKind.wrap .u64 (w64 (64 - a1)))) 64)))) from shl_ob _ hd3) (aC (show BinOb Try.prog .shr 2 (.int .i64 (w64 (a0 * 2 ^ (min (Int.toNat (IntKind.wrap .u64 (w64 (64 - a1)))) 64)))) (.int .u64 (IntKind.wrap .u64 (w64 (64 - a1)))) (.int .i64 (Int.fdiv (w64 (a0 * 2 ^ (min (Int.toNat (IntKind.wrap .u64 (w64 (64 - a1)))) 64))) (2 ^ (min (Int.toNat (IntKind.wrap .u64 (w64 (64 - a1)))) 64)))) from shr_ob _ hd4) aN)) (by kernel_rfl) ?_
 refine W_ret ?_
 exact kr [] _ _ (by kernel_rfl) (oinj h)
def R_gauss_part (a0 : Int) (r : Int) : Prop := FnP Try.prog 93 [aI .i64 a0] (aI .i64 r)
abbrev gauss_part_e (x : Int) : A := (aI .i64 x)
noncomputable def gauss_part (a0 : Int) : Option Int :=
  ((num_Round a0 24).bind fun (r1_1 : (Int × Bool)) => (some r1_1.1))
set_option maxRecDepth 100000 in
theorem gauss_part_ok {a0 : Int} {r_ : Int} (h : gauss_part a0 = some r_) : R_gauss_part a0 r_ := by
 unfold gauss_part at h
 refine fn_pureZ (enc := gauss_part_e) (by kernel_rfl) fun Q' kr kn => ?_
 refine W_z mixed [] [0] [] c0 [q_] aN (by kernel_rfl) ?_
 obtain ⟨r1_1, hr1_1, h⟩ := bind_ok h
 have hr1_1 := num_Round_ok hr1_1
 refine W_z mixed [(3, aI .i64 r1_1.1)] [] [] c0 [q_, qn (.call [] (.tup [aI .i64 r1_1.1, aB r1_1.2])), q_, q_, q_, q_, q_] (aC hr1_1 aN) (by kernel_rfl) ?_
 refine W_z mixed [(2, aI .i64 r1_1.1)] [] [] c0 [q_, q_] aN (by kernel_rfl) ?_
 refine W_ret ?_
 exact kr [] _ _ (by kernel_rfl) (oinj h)
def R_gauss_Of (a0 : Int) (a1 : Int) (r : GApiComp) : Prop := FnP Try.prog 63 [aI .i64 a0, aI .i64 a1] (e_GApiComp r)
abbrev gauss_Of_e (x : GApiComp) : A := (e_GApiComp x)
noncomputable def gauss_Of (a0 : Int) (a1 : Int) : Option GApiComp :=
  ((gauss_part a0).bind fun (r1_1 : Int) => ((gauss_part a1).bind fun (r1_3 : Int) => (some (GApiComp.mk r1_1 r1_3))))
set_option maxRecDepth 100000 in
theorem gauss_Of_ok {a0 : Int} {a1 : Int} {r_ : GApiComp} (h : gauss_Of a0 a1 = some r_) : R_gauss_Of a0 a1 r_ := by
 unfold gauss_Of at h
 refine fn_pureZ (enc := gauss_Of_e) (by kernel_rfl) fun Q' kr kn => ?_
 refine W_z mixed [(4, .ptr 4 0)] [0, 1] [(4, some (.box 69 [aI .i64 0, aI .i64 0]))] (cB [4] []) [q_] aN (by kernel_rfl) ?_
 obtain ⟨r1_1, hr1_1, h⟩ := bind_ok h
 have hr1_1 := gauss_part_ok hr1_1
 obtain ⟨r1_3, hr1_3, h⟩ := bind_ok h
 have hr1_3 := gauss_part_ok hr1_3
 refine W_z mixed [] [4] [(4, some (.box 69 [aI .i64 r1_1, aI .i64 r1_3]))] (cB [4] []) [q_, qn (.call [] (aI .i64 r1_1)), q_, qn (.call [] (aI .i64 r1_3)), q_, q_] (aC hr1_1 (aC hr1_3 aN)) (by kernel_rfl) ?_
 refine W_ret ?_
 exact kr [] _ _ (by kernel_rfl) (oinj h)
def R_gauss_back (a0 : (Nat × Nat)) (r : GApiComp) : Prop := FnP Try.prog 64 [aC2 a0.1 a0.2] (e_GApiComp r)
abbrev gauss_back_e (x : GApiComp) : A := (e_GApiComp x)
noncomputable def gauss_back (a0 : (Nat × Nat)) : Option GApiComp :=
  ((floatToIntVal .f64 a0.1 .i64).bind fun (n1_2 : Int) => ((floatToIntVal .f64 a0.2 .i64).bind fun (n1_5 : Int) => ((gauss_Of n1_2 n1_5).bind fun (r1_6 : GApiComp) => (some r1_6))))
set_option maxRecDepth 100000 in
theorem gauss_back_ok {a0 : (Nat × Nat)} {r_ : GApiComp} (h : gauss_back a0 = some r_) : R_gauss_back a0 r_ := by
 unfold gauss_back at h
 refine fn_pureZ (enc := gauss_back_e) (by kernel_rfl) fun Q' kr kn => ?_
 refine W_z mixed [(2, .ptr 2 0)] [0] [(2, some (.box 69 [aI .i64 0, aI .i64 0]))] (cB [2] []) [q_] aN (by kernel_rfl) ?_
 obtain ⟨n1_2, hn1_2, h⟩ := bind_ok h
 obtain ⟨n1_5, hn1_5, h⟩ := bind_ok h
 obtain ⟨r1_6, hr1_6, h⟩ := bind_ok h
 have hr1_6 := gauss_Of_ok hr1_6
 refine W_z mixed [] [2] [(2, some (.box 69 [aI .i64 r1_6.Re, aI .i64 r1_6.Im]))] (cB [2] []) [q_, qn (.quiet (aF a0.1)), qn (.quiet (aI .i64 n1_2)), q_, qn (.quiet (aF a0.2)), qn (.quiet (aI .i64 n1_5)), qn (.call [] (e_GApiComp r1_6)), q_] (aC (show Quiet Try.prog (opAt (subC (bodyC Try.prog 64) [1, 0]) 1) [aC2 a0.1 a0.2] (aF a0.1) from real_ob (by rfl) (by rfl) (by rfl)) (aC (show Quiet Try.prog (opAt (subC (bodyC Try.prog 64) [1, 0]) 2) [aF a0.1] (aI .i64 n1_2) from cvfi_ob (by rfl) (by kernel_rfl) (by kernel_rfl) hn1_2) (aC (show Quiet Try.prog (opAt (subC (bodyC Try.prog 64) [1, 0]) 4) [aC2 a0.1 a0.2] (aF a0.2) from imag_ob (by rfl) (by rfl) (by rfl)) (aC (show Quiet Try.prog (opAt (subC (bodyC Try.prog 64) [1, 0]) 5) [aF a0.2] (aI .i64 n1_5) from cvfi_ob (by rfl) (by kernel_rfl) (by kernel_rfl) hn1_5) (aC hr1_6 aN))))) (by kernel_rfl) ?_
 refine W_ret ?_
 exact kr [] _ _ (by kernel_rfl) (oinj h)
def R_gauss_number (a0 : GApiComp) (r : (Nat × Nat)) : Prop := FnP Try.prog 65 [e_GApiComp a0] (aC2 r.1 r.2)
abbrev gauss_number_e (x : (Nat × Nat)) : A := (aC2 x.1 x.2)
noncomputable def gauss_number (a0 : GApiComp) : Option (Nat × Nat) :=
  ((gauss_part a0.Re).bind fun (r1_2 : Int) => ((gauss_part a0.Im).bind fun (r1_6 : Int) => (some ((floatOfInt .f64 r1_2), (floatOfInt .f64 r1_6)))))
set_option maxRecDepth 100000 in
theorem gauss_number_ok {a0 : GApiComp} {r_ : (Nat × Nat)} (h : gauss_number a0 = some r_) : R_gauss_number a0 r_ := by
 unfold gauss_number at h
 refine fn_pureZ (enc := gauss_number_e) (by kernel_rfl) fun Q' kr kn => ?_
 refine W_z mixed [(1, .ptr 1 0)] [] [(1, some (.box 69 [aI .i64 a0.Re, aI .i64 a0.Im]))] (cB [1] []) [q_, q_] aN (by kernel_rfl) ?_
 obtain ⟨r1_2, hr1_2, h⟩ := bind_ok h
 have hr1_2 := gauss_part_ok hr1_2
 obtain ⟨r1_6, hr1_6, h⟩ := bind_ok h
 have hr1_6 := gauss_part_ok hr1_6
 refine W_z mixed [(2, aC2 (floatOfInt .f64 r1_2) (floatOfInt .f64 r1_6))] [] [] c0 [q_, q_, qn (.call [] (aI .i64 r1_2)), qn (.quiet (aF (floatOfInt .f64 r1_2))), q_, q_, qn (.call [] (aI .i64 r1_6)), qn (.quiet (aF (floatOfInt .f64 r1_6))), qn (.quiet (aC2 (floatOfInt .f64 r1_2) (floatOfInt .f64 r1_6))), q_] (aC hr1_2 (aC (show Quiet Try.prog (opAt (subC (bodyC Try.prog 65) [1, 0]) 3) [aI .i64 r1_2] (aF (floatOfInt .f64 r1_2)) from cvif_ob (by rfl) (by kernel_rfl) (by kernel_rfl)) (aC hr1_6 (aC (show Quiet Try.prog (opAt (subC (bodyC Try.prog 65) [1, 0]) 7) [aI .i64 r1_6] (aF (floatOfInt .f64 r1_6)) from cvif_ob (by rfl) (by kernel_rfl) (by kernel_rfl)) (aC (show Quiet Try.prog (opAt (subC (bodyC Try.prog 65) [1, 0]) 8) [aF (floatOfInt .f64 r1_2), aF (floatOfInt .f64 r1_6)] (aC2 (floatOfInt .f64 r1_2) (floatOfInt .f64 r1_6)) from cplx_ob (by rfl) (by rfl) (by rfl)) aN))))) (by kernel_rfl) ?_
 refine W_ret ?_
 exact kr [] _ _ (by kernel_rfl) (oinj h)
def R_oper_comp (a0 : GApiValue) (r : GApiComp) : Prop := FnP Try.prog 30 [e_GApiValue a0] (e_GApiComp r)
abbrev oper_comp_e (x : GApiComp) : A := (e_GApiComp x)
noncomputable def oper_comp (a0 : GApiValue) : Option GApiComp :=
  ((gauss_Of a0.Re a0.Im).bind fun (r1_4 : GApiComp) => (some r1_4))
set_option maxRecDepth 100000 in
theorem oper_comp_ok {a0 : GApiValue} {r_ : GApiComp} (h : oper_comp a0 = some r_) : R_oper_comp a0 r_ := by
 unfold oper_comp at h
 refine fn_pureZ (enc := oper_comp_e) (by kernel_rfl) fun Q' kr kn => ?_
 refine W_z mixed [(1, .ptr 1 0), (2, .ptr 2 0)] [] [(1, some (.box 23 [aI .u8 a0.Kind, aI .i64 a0.N, aI .i64 a0.Re, aI .i64 a0.Im])), (2, some (.box 69 [aI .i64 0, aI .i64 0]))] (cB [1, 2] []) [q_, q_] aN (by kernel_rfl) ?_
 obtain ⟨r1_4, hr1_4, h⟩ := bind_ok h
 have hr1_4 := gauss_Of_ok hr1_4
 refine W_z mixed [] [2] [(2, some (.box 69 [aI .i64 r1_4.Re, aI .i64 r1_4.Im]))] (cB [2] []) [q_, q_, q_, q_, qn (.call [] (e_GApiComp r1_4)), q_] (aC hr1_4 aN) (by kernel_rfl) ?_
 refine W_ret ?_
 exact kr [] _ _ (by kernel_rfl) (oinj h)
def R_oper_truth (a0 : Bool) (r : GApiValue) : Prop := FnP Try.prog 31 [aB a0] (e_GApiValue r)
abbrev oper_truth_e (x : GApiValue) : A := (e_GApiValue x)
noncomputable def oper_truth (a0 : Bool) : Option GApiValue :=
  (if a0 = true then (some (GApiValue.mk 2 1 0 0)) else (some (GApiValue.mk 2 0 0 0)))
set_option maxRecDepth 100000 in
theorem oper_truth_ok {a0 : Bool} {r_ : GApiValue} (h : oper_truth a0 = some r_) : R_oper_truth a0 r_ := by
 unfold oper_truth at h
 refine fn_pureZ (enc := oper_truth_e) (by kernel_rfl) fun Q' kr kn => ?_
 refine W_z mixed [(2, .ptr 2 0)] [0] [(2, some (.box 23 [aI .u8 0, aI .i64 0, aI .i64 0, aI .i64 0]))] (cB [2] []) [q_] aN (by kernel_rfl) ?_
 refine W_seq ?_
 refine W_z mixed [(3, aB a0)] [2] [k_ 2] (cB [2] []) [q_] aN (by kernel_rfl) ?_
 refine W_cb h (by kernel_rfl) (fun hx1 h => ?_) (fun hx1 h => ?_)
 refine W_z mixed [] [2] [(2, some (.box 23 [aI .u8 2, aI .i64 1, aI .i64 0, aI .i64 0]))] (cB [2] []) [q_, q_] aN (by kernel_rfl) ?_
 refine W_ret ?_
 exact kr [] _ _ (by kernel_rfl) (oinj h)
 refine W_skip ?_
 refine W_z mixed [] [2] [(2, some (.box 23 [aI .u8 2, aI .i64 0, aI .i64 0, aI .i64 0]))] (cB [2] []) [q_, q_] aN (by kernel_rfl) ?_
 refine W_ret ?_
 exact kr [] _ _ (by kernel_rfl) (oinj h)
def RI_slices_Clone_int64 (a0 : (List Int)) (r : (List Int)) : Prop := FnIO Try.prog 40 [.t (.sl 1 (a0.map c_i64))] [] (.ref 800000) [(800000, .row 2 1 (r.map c_i64))]
abbrev slices_Clone_int64_e (x : (List Int)) : A × List (Nat × Blk) := ((.ref 800000), [(800000, .row 2 1 (x.map c_i64))])
noncomputable def slices_Clone_int64 (a0 : (List Int)) : Option (List Int) :=
  (if AppOb 8 (([] : List Int).length + a0.length) then (some (([] : List Int) ++ a0)) else none)
set_option maxRecDepth 100000 in
theorem slices_Clone_int64_ok {a0 : (List Int)} {r_ : (List Int)} (h : slices_Clone_int64 a0 = some r_) : RI_slices_Clone_int64 a0 r_ := by
 unfold slices_Clone_int64 at h
 refine fn_ioZ (enc := slices_Clone_int64_e) (by kernel_rfl) (by kernel_rfl) fun Q' kr kn => ?_
 by_cases hne : a0 = []
 · subst hne
   refine W_case 0 1 (by kernel_rfl) (by kernel_rfl) (fun ad cap hcm => ?_)
   cases ad with
   | none =>
     obtain ⟨_, h⟩ := ite_ok h
     refine W_z mixed [] [0] [] c0 [q_] aN (by kernel_rfl) ?_
     refine W_seq ?_
     refine W_z mixed [(4, aB true)] [0] [] c0 [q_, qn (.quiet (aB true))] (aC (show Quiet Try.prog (opAt (subC (bodyC Try.prog 40) [1, 0, 0]) 1) [.t (.v (.slice none 0 cap)), aNil] (aB true) from nilt_v (e := 2) (ne := false) ⟨_, by rfl⟩ (by kernel_rfl)) aN) (by kernel_rfl) ?_
     refine W_ct (e := true) rfl (by kernel_rfl) ?_
     refine W_z mixed [(2, aNil)] [] [] c0 [q_] aN (by kernel_rfl) ?_
     refine W_ret ?_
     exact kr (cG [(0, 0, .row 800000)] [] [] [] [] [(800000, 2, 1)] []) _ ([] : List Int) (by kernel_rfl) (oinj h)
   | some p =>
     refine W_z mixed [] [0] [] c0 [q_] aN (by kernel_rfl) ?_
     refine W_seq ?_
     refine W_z mixed [(4, aB false)] [0] [] c0 [q_, qn (.quiet (aB false))] (aC (show Quiet Try.prog (opAt (subC (bodyC Try.prog 40) [1, 0, 0]) 1) [.t (.v (.slice (some p) 0 cap)), aNil] (aB false) from nilt_v (e := 2) (ne := false) ⟨_, by rfl⟩ (by kernel_rfl)) aN) (by kernel_rfl) ?_
     refine W_cf (e := false) rfl (by kernel_rfl) ?_
     refine W_skip ?_
     refine W_back 0 1 (some p) cap (by kernel_rfl) (by kernel_rfl) hcm ?_
     obtain ⟨hd1, h⟩ := ite_ok h
     refine W_z mixed [(2, .ref 1002)] [] [(1002, some (.row 2 1 ((([] : List Int) ++ ([] : List Int)).map c_i64)))] (cG [] [] [] [(7, 1002)] [] []) [q_, q_, qn (.rows ((([] : List Int) ++ ([] : List Int)).map c_i64)), q_] (aC (ap_obx c_i64 hd1) (aC (app_obx c_i64 ([] : List Int) ([] : List Int)) aN)) (by kernel_rfl) ?_
     refine W_ret ?_
     exact kr (cG [] [] [] [(1002, 800000)] [] [] []) _ (([] : List Int) ++ ([] : List Int)) (by kernel_rfl) (oinj h)
 · refine W_z mixed [] [0] [] c0 [q_] aN (by kernel_rfl) ?_
   refine W_seq ?_
   refine W_z mixed [(4, aB false)] [0] [] c0 [q_, qn (.quiet (aB false))] (aC (show Quiet Try.prog (opAt (subC (bodyC Try.prog 40) [1, 0, 0]) 1) [.t (.sl 1 (a0.map c_i64)), aNil] (aB false) from nilt_f (e := 2) (ne := false) ⟨_, by rfl⟩ (by kernel_rfl) (fun hh => hne (List.map_eq_nil_iff.1 hh))) aN) (by kernel_rfl) ?_
   refine W_cf (e := false) rfl (by kernel_rfl) ?_
   refine W_skip ?_
   obtain ⟨hd1, h⟩ := ite_ok h
   refine W_z mixed [(2, .ref 1002)] [] [(1002, some (.row 2 1 ((([] : List Int) ++ a0).map c_i64)))] (cG [] [] [] [(7, 1002)] [] []) [q_, q_, qn (.rows ((([] : List Int) ++ a0).map c_i64)), q_] (aC (ap_obx c_i64 hd1) (aC (app_obx c_i64 ([] : List Int) a0) aN)) (by kernel_rfl) ?_
   refine W_ret ?_
   exact kr (cG [] [] [] [(1002, 800000)] [] [] []) _ (([] : List Int) ++ a0) (by kernel_rfl) (oinj h)
def RI_oper_New (a0 : (List Int)) (a1 : (List Int)) (a2 : Int) (a3 : Int) (r : (Option GOperFeed)) : Prop := FnIO Try.prog 11 [.t (.sl 1 (a0.map c_i64)), .t (.sl 1 (a1.map c_i64)), aI .i64 a2, aI .i64 a3] [] (optCase r (aPnil) fun y => .ptr 24 0) (optCase r [] fun y => [(24, .box 80 [.t (.sl 1 (y.in_.map c_i64)), .t (.sl 1 (y.draws_.map c_i64)), aI .i64 y.read_, aI .i64 y.drawn_])])
abbrev oper_New_e (x : (Option GOperFeed)) : A × List (Nat × Blk) := ((optCase x (aPnil) fun y => .ptr 24 0), (optCase x [] fun y => [(24, .box 80 [.t (.sl 1 (y.in_.map c_i64)), .t (.sl 1 (y.draws_.map c_i64)), aI .i64 y.read_, aI .i64 y.drawn_])]))
noncomputable def oper_New (a0 : (List Int)) (a1 : (List Int)) (a2 : Int) (a3 : Int) : Option (Option GOperFeed) :=
  ((slices_Clone_int64 a0).bind fun (r1_1 : (List Int)) => ((slices_Clone_int64 a1).bind fun (r1_3 : (List Int)) => (some (some (GOperFeed.mk r1_1 r1_3 (if (a0.length : Int) < (if a2 < 0 then 0 else a2) then (a0.length : Int) else (if a2 < 0 then 0 else a2)) (if (a1.length : Int) < (if a3 < 0 then 0 else a3) then (a1.length : Int) else (if a3 < 0 then 0 else a3)))))))
set_option maxRecDepth 100000 in
theorem oper_New_ok {a0 : (List Int)} {a1 : (List Int)} {a2 : Int} {a3 : Int} {r_ : (Option GOperFeed)} (h : oper_New a0 a1 a2 a3 = some r_) : RI_oper_New a0 a1 a2 a3 r_ := by
 unfold oper_New at h
 refine fn_ioZ (enc := oper_New_e) (by kernel_rfl) (by kernel_rfl) fun Q' kr kn => ?_
 refine W_z mixed [] [0, 1, 2, 3] [] c0 [q_] aN (by kernel_rfl) ?_
 obtain ⟨r1_1, hr1_1, h⟩ := bind_ok h
 have hr1_1 := slices_Clone_int64_ok hr1_1
 obtain ⟨r1_3, hr1_3, h⟩ := bind_ok h
 have hr1_3 := slices_Clone_int64_ok hr1_3
 refine W_z mixed [(8, .ptr 24 0)] [] [(24, some (.box 80 [.ref 102400, .ref 102401, aI .i64 (if (a0.length : Int) < (if a2 < 0 then 0 else a2) then (a0.length : Int) else (if a2 < 0 then 0 else a2)), aI .i64 (if (a1.length : Int) < (if a3 < 0 then 0 else a3) then (a1.length : Int) else (if a3 < 0 then 0 else a3))])), (102400, some (.row 2 1 (r1_1.map c_i64))), (102401, some (.row 2 1 (r1_3.map c_i64)))] (cG [] [24] [] [(10, 102400), (12, 102401)] [] []) [q_, qn (.io ⟨[], [], [], [], [], [], [(800000, 10)]⟩ (.ref 800000) [(800000, .row 2 1 (r1_1.map c_i64))]), q_, qn (.io ⟨[], [], [], [], [], [], [(800000, 12)]⟩ (.ref 800000) [(800000, .row 2 1 (r1_3.map c_i64))]), q_, qn (.quiet (aI .i64 (if a2 < 0 then 0 else a2))), q_, qn (.len a0.length), qn (.quiet (aI .i64 (if (a0.length : Int) < (if a2 < 0 then 0 else a2) then (a0.length : Int) else (if a2 < 0 then 0 else a2)))), q_, qn (.quiet (aI .i64 (if a3 < 0 then 0 else a3))), q_, qn (.len a1.length), qn (.quiet (aI .i64 (if (a1.length : Int) < (if a3 < 0 then 0 else a3) then (a1.length : Int) else (if a3 < 0 then 0 else a3)))), q_, q_, q_] (aC hr1_1 (aC hr1_3 (aC (show Quiet Try.prog (opAt (subC (bodyC Try.prog 11) [1, 0]) 5) [aI .i64 a2, aI .i64 0] (aI .i64 (if a2 < 0 then 0 else a2)) from max_ob (by rfl) (by rfl) (by rfl)) (aC (len_obx c_i64 a0) (aC (show Quiet Try.prog (opAt (subC (bodyC Try.prog 11) [1, 0]) 8) [aI .i64 (if a2 < 0 then 0 else a2), aI .i64 (a0.length : Int)] (aI .i64 (if (a0.length : Int) < (if a2 < 0 then 0 else a2) then (a0.length : Int) else (if a2 < 0 then 0 else a2))) from min_ob (by rfl) (by rfl) (by rfl)) (aC (show Quiet Try.prog (opAt (subC (bodyC Try.prog 11) [1, 0]) 10) [aI .i64 a3, aI .i64 0] (aI .i64 (if a3 < 0 then 0 else a3)) from max_ob (by rfl) (by rfl) (by rfl)) (aC (len_obx c_i64 a1) (aC (show Quiet Try.prog (opAt (subC (bodyC Try.prog 11) [1, 0]) 13) [aI .i64 (if a3 < 0 then 0 else a3), aI .i64 (a1.length : Int)] (aI .i64 (if (a1.length : Int) < (if a3 < 0 then 0 else a3) then (a1.length : Int) else (if a3 < 0 then 0 else a3))) from min_ob (by rfl) (by rfl) (by rfl)) aN)))))))) (by kernel_rfl) ?_
 refine W_ret ?_
 exact kr (cG [] [24] [] [] [102400, 102401] [] []) _ (some (GOperFeed.mk r1_1 r1_3 (if (a0.length : Int) < (if a2 < 0 then 0 else a2) then (a0.length : Int) else (if a2 < 0 then 0 else a2)) (if (a1.length : Int) < (if a3 < 0 then 0 else a3) then (a1.length : Int) else (if a3 < 0 then 0 else a3)))) (by kernel_rfl) (oinj h)
def RI_oper_Feed_Draw (a0 : GOperFeed) (a1 : Int) (r : (Int × Int × GOperFeed)) : Prop := FnIO Try.prog 15 [.ptr 900 0, aI .i64 a1] [(900, .box 80 [.t (.sl 1 (a0.in_.map c_i64)), .t (.sl 1 (a0.draws_.map c_i64)), aI .i64 a0.read_, aI .i64 a0.drawn_])] (.tup [aI .i64 r.1, aI .u8 r.2.1]) [(900, .box 80 [.t (.sl 1 (r.2.2.in_.map c_i64)), .t (.sl 1 (r.2.2.draws_.map c_i64)), aI .i64 r.2.2.read_, aI .i64 r.2.2.drawn_])]
abbrev oper_Feed_Draw_e (x : (Int × Int × GOperFeed)) : A × List (Nat × Blk) := ((.tup [aI .i64 x.1, aI .u8 x.2.1]), [(900, .box 80 [.t (.sl 1 (x.2.2.in_.map c_i64)), .t (.sl 1 (x.2.2.draws_.map c_i64)), aI .i64 x.2.2.read_, aI .i64 x.2.2.drawn_])])
noncomputable def oper_Feed_Draw (a0 : GOperFeed) (a1 : Int) : Option (Int × Int × GOperFeed) :=
  (if a1 < 1 then (some (0, 1, a0)) else (if a0.drawn_ = (a0.draws_.length : Int) then (some (0, 6, a0)) else ((getI a0.draws_ a0.drawn_).bind fun (x5_8 : Int) => (if a1 ≠ (0 : Int) then (if (Int.tmod x5_8 a1) < 0 then (some ((w64 ((Int.tmod x5_8 a1) + a1)), 0, (GOperFeed.mk a0.in_ a0.draws_ a0.read_ (w64 (a0.drawn_ + 1))))) else (some ((Int.tmod x5_8 a1), 0, (GOperFeed.mk a0.in_ a0.draws_ a0.read_ (w64 (a0.drawn_ + 1)))))) else none))))
set_option maxRecDepth 100000 in
theorem oper_Feed_Draw_ok {a0 : GOperFeed} {a1 : Int} {r_ : (Int × Int × GOperFeed)} (h : oper_Feed_Draw a0 a1 = some r_) : RI_oper_Feed_Draw a0 a1 r_ := by
 unfold oper_Feed_Draw at h
 refine fn_ioZ (enc := oper_Feed_Draw_e) (by kernel_rfl) (by kernel_rfl) fun Q' kr kn => ?_
 refine W_z mixed [] [0, 1] [k_ 900] (cB [900] []) [q_, q_] aN (by kernel_rfl) ?_
 refine W_seq ?_
 refine W_block ?_
 refine W_z mixed [(7, aB (decide (a1 < 1)))] [0, 1] [k_ 900] (cB [900] []) [q_, q_, q_] aN (by kernel_rfl) ?_
 refine W_cd h (by kernel_rfl) (fun hx1 h => ?_) (fun hx1 h => ?_)
 refine W_z mixed [(4, aI .i64 0), (5, aI .u8 1)] [] [k_ 900] (cB [900] []) [q_, q_] aN (by kernel_rfl) ?_
 refine W_ret ?_
 exact kr (cB [900] [] []) _ (0, 1, a0) (by kernel_rfl) (oinj h)
 refine W_z mixed [(10, aB (decide (a0.drawn_ = (a0.draws_.length : Int))))] [0, 1] [k_ 900] (cB [900] []) (qz 11 [qn (.len a0.draws_.length), q_, q_, q_]) (aC (len_obx c_i64 a0.draws_) aN) (by kernel_rfl) ?_
 refine W_cd h (by kernel_rfl) (fun hx2 h => ?_) (fun hx2 h => ?_)
 refine W_z mixed [(4, aI .i64 0), (5, aI .u8 6)] [] [k_ 900] (cB [900] []) [q_, q_] aN (by kernel_rfl) ?_
 refine W_ret ?_
 exact kr (cB [900] [] []) _ (0, 6, a0) (by kernel_rfl) (oinj h)
 refine W_skip ?_
 obtain ⟨x5_8, hx5_8, h⟩ := bind_ok h
 obtain ⟨hd3, h⟩ := ite_ok h
 refine W_z mixed [(6, aI .i64 (Int.tmod x5_8 a1))] [0, 1] [k_ 900] (cB [900] []) (qz 8 [qn (.ix (Int.toNat a0.drawn_) (c_i64 x5_8)), q_, q_, qn (.val (.int .i64 (Int.tmod x5_8 a1))), q_]) (aC (ix_obx c_i64 hx5_8) (aC (show BinOb Try.prog .rem 2 (.int .i64 x5_8) (.int .i64 a1) (.int .i64 (Int.tmod x5_8 a1)) from rem_ob _ hd3) aN)) (by kernel_rfl) ?_
 refine W_z mixed [] [1, 6] [(900, some (.box 80 [.t (.sl 1 (a0.in_.map c_i64)), .t (.sl 1 (a0.draws_.map c_i64)), aI .i64 a0.read_, aI .i64 (w64 (a0.drawn_ + 1))]))] (cB [900] []) (qz 8 []) aN (by kernel_rfl) ?_
 refine W_seq ?_
 refine W_z mixed [(45, aB (decide ((Int.tmod x5_8 a1) < 0)))] [1, 6] [k_ 900] (cB [900] []) [q_, q_] aN (by kernel_rfl) ?_
 refine W_cd h (by kernel_rfl) (fun hx4 h => ?_) (fun hx4 h => ?_)
 refine W_zl mixed [(6, aI .i64 (w64 ((Int.tmod x5_8 a1) + a1)))] [] [k_ 900] (cB [900] []) (qz 4 []) aN (by kernel_rfl) ?_
 refine W_z mixed [(4, aI .i64 (w64 ((Int.tmod x5_8 a1) + a1))), (5, aI .u8 0)] [] [k_ 900] (cB [900] []) [q_, q_, q_] aN (by kernel_rfl) ?_
 refine W_ret ?_
 exact kr (cB [900] [] []) _ ((w64 ((Int.tmod x5_8 a1) + a1)), 0, (GOperFeed.mk a0.in_ a0.draws_ a0.read_ (w64 (a0.drawn_ + 1)))) (by kernel_rfl) (oinj h)
 refine W_skip ?_
 refine W_z mixed [(4, aI .i64 (Int.tmod x5_8 a1)), (5, aI .u8 0)] [] [k_ 900] (cB [900] []) [q_, q_, q_] aN (by kernel_rfl) ?_
 refine W_ret ?_
 exact kr (cB [900] [] []) _ ((Int.tmod x5_8 a1), 0, (GOperFeed.mk a0.in_ a0.draws_ a0.read_ (w64 (a0.drawn_ + 1)))) (by kernel_rfl) (oinj h)
def R_oper_ref (a0 : GApiValue) (r : Bool) : Prop := FnP Try.prog 44 [e_GApiValue a0] (aB r)
abbrev oper_ref_e (x : Bool) : A := (aB x)
noncomputable def oper_ref (a0 : GApiValue) : Option Bool :=
  (if a0.Kind = 5 then (some true) else (if a0.Kind = 6 then (some true) else (some (decide (a0.Kind = 7)))))
set_option maxRecDepth 100000 in
theorem oper_ref_ok {a0 : GApiValue} {r_ : Bool} (h : oper_ref a0 = some r_) : R_oper_ref a0 r_ := by
 unfold oper_ref at h
 refine fn_pureZ (enc := oper_ref_e) (by kernel_rfl) fun Q' kr kn => ?_
 refine W_z mixed [(1, .ptr 1 0)] [] [(1, some (.box 23 [aI .u8 a0.Kind, aI .i64 a0.N, aI .i64 a0.Re, aI .i64 a0.Im]))] (cB [1] []) [q_, q_] aN (by kernel_rfl) ?_
 refine if_c h (fun hx1 h => ?_) (fun hx1 h => ?_)
 refine W_z mixed [(2, aB true)] [] [] c0 (q_ :: q_ :: q_ :: q_ :: qt0 :: qt0 :: qt0 :: qn (.dec true) :: (qz 6 [])) (aC hx1 (aC hx1 (aC hx1 (aC hx1 aN)))) (by kernel_rfl) ?_
 refine W_ret ?_
 exact kr [] _ _ (by kernel_rfl) (oinj h)
 refine if_c h (fun hx2 h => ?_) (fun hx2 h => ?_)
 refine W_z mixed [(2, aB true)] [] [] c0 [q_, q_, q_, q_, qf0, qf0, qf0, qn (.dec false), q_, qt0, qt0, qt0, qn (.dec true), q_] (aC hx1 (aC hx1 (aC hx1 (aC hx1 (aC hx2 (aC hx2 (aC hx2 (aC hx2 aN)))))))) (by kernel_rfl) ?_
 refine W_ret ?_
 exact kr [] _ _ (by kernel_rfl) (oinj h)
 refine W_z mixed [(2, aB (decide (a0.Kind = 7)))] [] [] c0 [q_, q_, q_, q_, qf0, qf0, qf0, qn (.dec false), q_, qf0, qf0, qf0, qn (.dec false), q_] (aC hx1 (aC hx1 (aC hx1 (aC hx1 (aC hx2 (aC hx2 (aC hx2 (aC hx2 aN)))))))) (by kernel_rfl) ?_
 refine W_ret ?_
 exact kr [] _ _ (by kernel_rfl) (oinj h)
def R_oper_same (a0 : Int) (a1 : Bool) (r : (GApiValue × Bool)) : Prop := FnP Try.prog 45 [aI .i64 a0, aB a1] (.tup [e_GApiValue r.1, aB r.2])
abbrev oper_same_e (x : (GApiValue × Bool)) : A := (.tup [e_GApiValue x.1, aB x.2])
noncomputable def oper_same (a0 : Int) (a1 : Bool) : Option (GApiValue × Bool) :=
  (if a0 = 6 then ((oper_truth a1).bind fun (r3_1 : GApiValue) => (some (r3_1, true))) else (if a0 = 7 then ((oper_truth (!a1)).bind fun (r5_2 : GApiValue) => (some (r5_2, true))) else (some ((GApiValue.mk 0 0 0 0), false))))
set_option maxRecDepth 100000 in
theorem oper_same_ok {a0 : Int} {a1 : Bool} {r_ : (GApiValue × Bool)} (h : oper_same a0 a1 = some r_) : R_oper_same a0 a1 r_ := by
 unfold oper_same at h
 refine fn_pureZ (enc := oper_same_e) (by kernel_rfl) fun Q' kr kn => ?_
 refine W_z mixed [(4, .ptr 4 0)] [0, 1] [(4, some (.box 23 [aI .u8 0, aI .i64 0, aI .i64 0, aI .i64 0]))] (cB [4] []) [q_, q_] aN (by kernel_rfl) ?_
 refine W_seq ?_
 refine W_z mixed [(6, aI .i64 a0)] [1, 4] [k_ 4] (cB [4] []) [q_] aN (by kernel_rfl) ?_
 refine W_block ?_
 refine W_z mixed [(7, aB (decide (a0 = 6)))] [1, 4, 6] [k_ 4] (cB [4] []) [q_, q_] aN (by kernel_rfl) ?_
 refine W_cd h (by kernel_rfl) (fun hx1 h => ?_) (fun hx1 h => ?_)
 obtain ⟨r3_1, hr3_1, h⟩ := bind_ok h
 have hr3_1 := oper_truth_ok hr3_1
 refine W_z mixed [(5, aB true)] [4] [(4, some (.box 23 [aI .u8 r3_1.Kind, aI .i64 r3_1.N, aI .i64 r3_1.Re, aI .i64 r3_1.Im]))] (cB [4] []) [q_, qn (.call [] (e_GApiValue r3_1)), q_, q_] (aC hr3_1 aN) (by kernel_rfl) ?_
 refine W_ret ?_
 exact kr [] _ _ (by kernel_rfl) (oinj h)
 refine W_z mixed [(11, aB (decide (a0 = 7)))] [1, 4] [k_ 4] (cB [4] []) [q_, q_] aN (by kernel_rfl) ?_
 refine W_cd h (by kernel_rfl) (fun hx2 h => ?_) (fun hx2 h => ?_)
 obtain ⟨r5_2, hr5_2, h⟩ := bind_ok h
 have hr5_2 := oper_truth_ok hr5_2
 refine W_z mixed [(5, aB true)] [4] [(4, some (.box 23 [aI .u8 r5_2.Kind, aI .i64 r5_2.N, aI .i64 r5_2.Re, aI .i64 r5_2.Im]))] (cB [4] []) [q_, q_, qn (.call [] (e_GApiValue r5_2)), q_, q_] (aC hr5_2 aN) (by kernel_rfl) ?_
 refine W_ret ?_
 exact kr [] _ _ (by kernel_rfl) (oinj h)
 refine W_skip ?_
 refine W_z mixed [(5, aB false)] [4] [k_ 4] (cB [4] []) [q_, q_, q_] aN (by kernel_rfl) ?_
 refine W_ret ?_
 exact kr [] _ _ (by kernel_rfl) (oinj h)
def R_cmp_isNaN_int64 (a0 : Int) (r : Bool) : Prop := FnP Try.prog 101 [aI .i64 a0] (aB r)
abbrev cmp_isNaN_int64_e (x : Bool) : A := (aB x)
noncomputable def cmp_isNaN_int64 (a0 : Int) : Option Bool :=
  (some (!(decide (a0 = a0))))
set_option maxRecDepth 100000 in
theorem cmp_isNaN_int64_ok {a0 : Int} {r_ : Bool} (h : cmp_isNaN_int64 a0 = some r_) : R_cmp_isNaN_int64 a0 r_ := by
 unfold cmp_isNaN_int64 at h
 refine fn_pureZ (enc := cmp_isNaN_int64_e) (by kernel_rfl) fun Q' kr kn => ?_
 refine W_z mixed [] [0] [] c0 [q_] aN (by kernel_rfl) ?_
 refine W_z mixed [(2, aB (!(decide (a0 = a0))))] [] [] c0 (qz 4 []) aN (by kernel_rfl) ?_
 refine W_ret ?_
 exact kr [] _ _ (by kernel_rfl) (oinj h)
def R_cmp_Compare_int64 (a0 : Int) (a1 : Int) (r : Int) : Prop := FnP Try.prog 96 [aI .i64 a0, aI .i64 a1] (aI .i64 r)
abbrev cmp_Compare_int64_e (x : Int) : A := (aI .i64 x)
noncomputable def cmp_Compare_int64 (a0 : Int) (a1 : Int) : Option Int :=
  ((cmp_isNaN_int64 a0).bind fun (r1_1 : Bool) => ((cmp_isNaN_int64 a1).bind fun (r2_1 : Bool) => (if r1_1 = true then (if r2_1 = true then (some 0) else (some (-1))) else (if r2_1 = true then (some 1) else (if a0 < a1 then (some (-1)) else (if a0 > a1 then (some 1) else (some 0)))))))
set_option maxRecDepth 100000 in
theorem cmp_Compare_int64_ok {a0 : Int} {a1 : Int} {r_ : Int} (h : cmp_Compare_int64 a0 a1 = some r_) : R_cmp_Compare_int64 a0 a1 r_ := by
 unfold cmp_Compare_int64 at h
 refine fn_pureZ (enc := cmp_Compare_int64_e) (by kernel_rfl) fun Q' kr kn => ?_
 refine W_z mixed [] [0, 1] [] c0 [q_] aN (by kernel_rfl) ?_
 obtain ⟨r1_1, hr1_1, h⟩ := bind_ok h
 have hr1_1 := cmp_isNaN_int64_ok hr1_1
 refine W_z mixed [(5, aB r1_1)] [0, 1] [] c0 [q_, qn (.call [] (aB r1_1)), q_] (aC hr1_1 aN) (by kernel_rfl) ?_
 obtain ⟨r2_1, hr2_1, h⟩ := bind_ok h
 have hr2_1 := cmp_isNaN_int64_ok hr2_1
 refine W_z mixed [(6, aB r2_1)] [0, 1, 5] [] c0 [q_, qn (.call [] (aB r2_1)), q_] (aC hr2_1 aN) (by kernel_rfl) ?_
 refine W_seq ?_
 refine W_z mixed [(11, aB r1_1)] [0, 1, 6] [] c0 [q_] aN (by kernel_rfl) ?_
 refine W_cb h (by kernel_rfl) (fun hx1 h => ?_) (fun hx1 h => ?_)
 refine W_seq ?_
 refine W_z mixed [(12, aB r2_1)] [] [] c0 [q_] aN (by kernel_rfl) ?_
 refine W_cb h (by kernel_rfl) (fun hx2 h => ?_) (fun hx2 h => ?_)
 refine W_z mixed [(4, aI .i64 0)] [] [] c0 [q_] aN (by kernel_rfl) ?_
 refine W_ret ?_
 exact kr [] _ _ (by kernel_rfl) (oinj h)
 refine W_skip ?_
 refine W_z mixed [(4, aI .i64 (-1))] [] [] c0 [q_] aN (by kernel_rfl) ?_
 refine W_ret ?_
 exact kr [] _ _ (by kernel_rfl) (oinj h)
 refine W_skip ?_
 refine W_seq ?_
 refine W_z mixed [(13, aB r2_1)] [0, 1] [] c0 [q_] aN (by kernel_rfl) ?_
 refine W_cb h (by kernel_rfl) (fun hx3 h => ?_) (fun hx3 h => ?_)
 refine W_z mixed [(4, aI .i64 1)] [] [] c0 [q_] aN (by kernel_rfl) ?_
 refine W_ret ?_
 exact kr [] _ _ (by kernel_rfl) (oinj h)
 refine W_skip ?_
 refine W_seq ?_
 refine W_z mixed [(16, aB (decide (a0 < a1)))] [0, 1] [] c0 [q_, q_, q_] aN (by kernel_rfl) ?_
 refine W_cd h (by kernel_rfl) (fun hx4 h => ?_) (fun hx4 h => ?_)
 refine W_z mixed [(4, aI .i64 (-1))] [] [] c0 [q_] aN (by kernel_rfl) ?_
 refine W_ret ?_
 exact kr [] _ _ (by kernel_rfl) (oinj h)
 refine W_skip ?_
 refine W_seq ?_
 refine W_z mixed [(19, aB (decide (a0 > a1)))] [] [] c0 [q_, q_, q_] aN (by kernel_rfl) ?_
 refine W_cd h (by kernel_rfl) (fun hx5 h => ?_) (fun hx5 h => ?_)
 refine W_z mixed [(4, aI .i64 1)] [] [] c0 [q_] aN (by kernel_rfl) ?_
 refine W_ret ?_
 exact kr [] _ _ (by kernel_rfl) (oinj h)
 refine W_skip ?_
 refine W_z mixed [(4, aI .i64 0)] [] [] c0 [q_] aN (by kernel_rfl) ?_
 refine W_ret ?_
 exact kr [] _ _ (by kernel_rfl) (oinj h)
def R_num_Compare (a0 : Int) (a1 : Int) (r : Int) : Prop := FnP Try.prog 74 [aI .i64 a0, aI .i64 a1] (aI .i64 r)
abbrev num_Compare_e (x : Int) : A := (aI .i64 x)
noncomputable def num_Compare (a0 : Int) (a1 : Int) : Option Int :=
  ((cmp_Compare_int64 a0 a1).bind fun (r1_2 : Int) => (some r1_2))
set_option maxRecDepth 100000 in
theorem num_Compare_ok {a0 : Int} {a1 : Int} {r_ : Int} (h : num_Compare a0 a1 = some r_) : R_num_Compare a0 a1 r_ := by
 unfold num_Compare at h
 refine fn_pureZ (enc := num_Compare_e) (by kernel_rfl) fun Q' kr kn => ?_
 refine W_z mixed [] [0, 1] [] c0 [q_] aN (by kernel_rfl) ?_
 obtain ⟨r1_2, hr1_2, h⟩ := bind_ok h
 have hr1_2 := cmp_Compare_int64_ok hr1_2
 refine W_z mixed [(4, aI .i64 r1_2)] [] [] c0 [q_, q_, qn (.call [] (aI .i64 r1_2)), q_] (aC hr1_2 aN) (by kernel_rfl) ?_
 refine W_ret ?_
 exact kr [] _ _ (by kernel_rfl) (oinj h)
def R_num_Add (a0 : Int) (a1 : Int) (r : Int) : Prop := FnP Try.prog 75 [aI .i64 a0, aI .i64 a1] (aI .i64 r)
abbrev num_Add_e (x : Int) : A := (aI .i64 x)
noncomputable def num_Add (a0 : Int) (a1 : Int) : Option Int :=
  (some (w64 (a0 + a1)))
set_option maxRecDepth 100000 in
theorem num_Add_ok {a0 : Int} {a1 : Int} {r_ : Int} (h : num_Add a0 a1 = some r_) : R_num_Add a0 a1 r_ := by
 unfold num_Add at h
 refine fn_pureZ (enc := num_Add_e) (by kernel_rfl) fun Q' kr kn => ?_
 refine W_z mixed [] [0, 1] [] c0 [q_] aN (by kernel_rfl) ?_
 refine W_z mixed [(4, aI .i64 (w64 (a0 + a1)))] [] [] c0 (qz 4 []) aN (by kernel_rfl) ?_
 refine W_ret ?_
 exact kr [] _ _ (by kernel_rfl) (oinj h)
def R_num_Sub (a0 : Int) (a1 : Int) (r : Int) : Prop := FnP Try.prog 76 [aI .i64 a0, aI .i64 a1] (aI .i64 r)
abbrev num_Sub_e (x : Int) : A := (aI .i64 x)
noncomputable def num_Sub (a0 : Int) (a1 : Int) : Option Int :=
  (some (w64 (a0 - a1)))
set_option maxRecDepth 100000 in
theorem num_Sub_ok {a0 : Int} {a1 : Int} {r_ : Int} (h : num_Sub a0 a1 = some r_) : R_num_Sub a0 a1 r_ := by
 unfold num_Sub at h
 refine fn_pureZ (enc := num_Sub_e) (by kernel_rfl) fun Q' kr kn => ?_
 refine W_z mixed [] [0, 1] [] c0 [q_] aN (by kernel_rfl) ?_
 refine W_z mixed [(4, aI .i64 (w64 (a0 - a1)))] [] [] c0 (qz 4 []) aN (by kernel_rfl) ?_
 refine W_ret ?_
 exact kr [] _ _ (by kernel_rfl) (oinj h)
def R_num_Mul (a0 : Int) (a1 : Int) (r : Int) : Prop := FnP Try.prog 77 [aI .i64 a0, aI .i64 a1] (aI .i64 r)
abbrev num_Mul_e (x : Int) : A := (aI .i64 x)
noncomputable def num_Mul (a0 : Int) (a1 : Int) : Option Int :=
  (some (w64 (a0 * a1)))
set_option maxRecDepth 100000 in
theorem num_Mul_ok {a0 : Int} {a1 : Int} {r_ : Int} (h : num_Mul a0 a1 = some r_) : R_num_Mul a0 a1 r_ := by
 unfold num_Mul at h
 refine fn_pureZ (enc := num_Mul_e) (by kernel_rfl) fun Q' kr kn => ?_
 refine W_z mixed [] [0, 1] [] c0 [q_] aN (by kernel_rfl) ?_
 refine W_z mixed [(4, aI .i64 (w64 (a0 * a1)))] [] [] c0 (qz 4 []) aN (by kernel_rfl) ?_
 refine W_ret ?_
 exact kr [] _ _ (by kernel_rfl) (oinj h)
def R_num_Div (a0 : Int) (a1 : Int) (r : (Int × Bool)) : Prop := FnP Try.prog 78 [aI .i64 a0, aI .i64 a1] (.tup [aI .i64 r.1, aB r.2])
abbrev num_Div_e (x : (Int × Bool)) : A := (.tup [aI .i64 x.1, aB x.2])
noncomputable def num_Div (a0 : Int) (a1 : Int) : Option (Int × Bool) :=
  (if a1 = 0 then (some (0, false)) else (if a1 = (-1) then (some ((w64 (0 - a0)), true)) else (if a1 ≠ (0 : Int) then (some ((w64 (Int.tdiv a0 a1)), true)) else none)))
set_option maxRecDepth 100000 in
theorem num_Div_ok {a0 : Int} {a1 : Int} {r_ : (Int × Bool)} (h : num_Div a0 a1 = some r_) : R_num_Div a0 a1 r_ := by
 unfold num_Div at h
 refine fn_pureZ (enc := num_Div_e) (by kernel_rfl) fun Q' kr kn => ?_
 refine W_z mixed [] [0, 1] [] c0 [q_, q_] aN (by kernel_rfl) ?_
 refine W_seq ?_
 refine W_z mixed [(6, aI .i64 a1)] [0, 1] [] c0 [q_] aN (by kernel_rfl) ?_
 refine W_block ?_
 refine W_z mixed [(7, aB (decide (a1 = 0)))] [0, 1, 6] [] c0 [q_, q_] aN (by kernel_rfl) ?_
 refine W_cd h (by kernel_rfl) (fun hx1 h => ?_) (fun hx1 h => ?_)
 refine W_z mixed [(4, aI .i64 0), (5, aB false)] [] [] c0 [q_, q_] aN (by kernel_rfl) ?_
 refine W_ret ?_
 exact kr [] _ _ (by kernel_rfl) (oinj h)
 refine W_z mixed [(9, aB (decide (a1 = (-1))))] [0, 1] [] c0 [q_, q_] aN (by kernel_rfl) ?_
 refine W_cd h (by kernel_rfl) (fun hx2 h => ?_) (fun hx2 h => ?_)
 refine W_z mixed [(4, aI .i64 (w64 (0 - a0))), (5, aB true)] [] [] c0 (qz 4 []) aN (by kernel_rfl) ?_
 refine W_ret ?_
 exact kr [] _ _ (by kernel_rfl) (oinj h)
 refine W_skip ?_
 obtain ⟨hd3, h⟩ := ite_ok h
 refine W_z mixed [(4, aI .i64 (w64 (Int.tdiv a0 a1))), (5, aB true)] [] [] c0 [q_, q_, qn (.val (.int .i64 (w64 (Int.tdiv a0 a1)))), q_, q_] (aC (show BinOb Try.prog .quo 2 (.int .i64 a0) (.int .i64 a1) (.int .i64 (w64 (Int.tdiv a0 a1))) from quo_ob _ hd3) aN) (by kernel_rfl) ?_
 refine W_ret ?_
 exact kr [] _ _ (by kernel_rfl) (oinj h)
def R_num_Rem (a0 : Int) (a1 : Int) (r : (Int × Bool)) : Prop := FnP Try.prog 79 [aI .i64 a0, aI .i64 a1] (.tup [aI .i64 r.1, aB r.2])
abbrev num_Rem_e (x : (Int × Bool)) : A := (.tup [aI .i64 x.1, aB x.2])
noncomputable def num_Rem (a0 : Int) (a1 : Int) : Option (Int × Bool) :=
  (if a1 = 0 then (some (0, false)) else (if a1 = (-1) then (some (0, true)) else (if a1 ≠ (0 : Int) then (some ((Int.tmod a0 a1), true)) else none)))
set_option maxRecDepth 100000 in
theorem num_Rem_ok {a0 : Int} {a1 : Int} {r_ : (Int × Bool)} (h : num_Rem a0 a1 = some r_) : R_num_Rem a0 a1 r_ := by
 unfold num_Rem at h
 refine fn_pureZ (enc := num_Rem_e) (by kernel_rfl) fun Q' kr kn => ?_
 refine W_z mixed [] [0, 1] [] c0 [q_, q_] aN (by kernel_rfl) ?_
 refine W_seq ?_
 refine W_z mixed [(6, aI .i64 a1)] [0, 1] [] c0 [q_] aN (by kernel_rfl) ?_
 refine W_block ?_
 refine W_z mixed [(7, aB (decide (a1 = 0)))] [0, 1, 6] [] c0 [q_, q_] aN (by kernel_rfl) ?_
 refine W_cd h (by kernel_rfl) (fun hx1 h => ?_) (fun hx1 h => ?_)
 refine W_z mixed [(4, aI .i64 0), (5, aB false)] [] [] c0 [q_, q_] aN (by kernel_rfl) ?_
 refine W_ret ?_
 exact kr [] _ _ (by kernel_rfl) (oinj h)
 refine W_z mixed [(9, aB (decide (a1 = (-1))))] [0, 1] [] c0 [q_, q_] aN (by kernel_rfl) ?_
 refine W_cd h (by kernel_rfl) (fun hx2 h => ?_) (fun hx2 h => ?_)
 refine W_z mixed [(4, aI .i64 0), (5, aB true)] [] [] c0 [q_, q_] aN (by kernel_rfl) ?_
 refine W_ret ?_
 exact kr [] _ _ (by kernel_rfl) (oinj h)
 refine W_skip ?_
 obtain ⟨hd3, h⟩ := ite_ok h
 refine W_z mixed [(4, aI .i64 (Int.tmod a0 a1)), (5, aB true)] [] [] c0 [q_, q_, qn (.val (.int .i64 (Int.tmod a0 a1))), q_, q_] (aC (show BinOb Try.prog .rem 2 (.int .i64 a0) (.int .i64 a1) (.int .i64 (Int.tmod a0 a1)) from rem_ob _ hd3) aN) (by kernel_rfl) ?_
 refine W_ret ?_
 exact kr [] _ _ (by kernel_rfl) (oinj h)
def R_oper_ints (a0 : Int) (a1 : Int) (a2 : Int) (r : (GApiValue × Int × Bool)) : Prop := FnP Try.prog 46 [aI .i64 a0, aI .i64 a1, aI .i64 a2] (.tup [e_GApiValue r.1, aI .u8 r.2.1, aB r.2.2])
abbrev oper_ints_e (x : (GApiValue × Int × Bool)) : A := (.tup [e_GApiValue x.1, aI .u8 x.2.1, aB x.2.2])
noncomputable def oper_ints_j0 (v0_10_0 : Bool) (v0_11_0 : Int) : Option (GApiValue × Int × Bool) :=
  (if v0_10_0 = true then ((oper_integer v0_11_0).bind fun (r30_1 : GApiValue) => (some (r30_1, 0, true))) else (some ((GApiValue.mk 0 0 0 0), 1, true)))
def oper_ints_j0_s (v0_10_0 : Bool) (v0_11_0 : Int) : LS := LS.mk 83 [(6, .ptr 6 0), (10, aB v0_10_0), (11, aI .i64 v0_11_0)] [(6, some (.box 23 [aI .u8 0, aI .i64 0, aI .i64 0, aI .i64 0]))]
set_option maxRecDepth 100000 in
theorem oper_ints_j0_ok (v0_10_0 : Bool) (v0_11_0 : Int) (r_ : (GApiValue × Int × Bool)) (Q' : Exit → St → Prop) (kr : KR Try.prog 46 oper_ints_e r_ .ret Q')  (h : oper_ints_j0 v0_10_0 v0_11_0 = some r_) : W Try.prog (subC (bodyC Try.prog 46) [1, 1, 1, 1, 1]) (oper_ints_j0_s v0_10_0 v0_11_0).st Q' := by
 unfold oper_ints_j0 at h
 refine W_seq ?_
 refine W_z mixed [(79, aB (!v0_10_0))] [6, 11] [k_ 6] (cB [6] []) [q_, q_] aN (by kernel_rfl) ?_
 refine W_cbn h (by kernel_rfl) (fun hx1001 h => ?_) (fun hx1001 h => ?_)
 refine W_skip ?_
 obtain ⟨r30_1, hr30_1, h⟩ := bind_ok h
 have hr30_1 := oper_integer_ok hr30_1
 refine W_z mixed [(7, aI .u8 0), (8, aB true)] [6] [(6, some (.box 23 [aI .u8 r30_1.Kind, aI .i64 r30_1.N, aI .i64 r30_1.Re, aI .i64 r30_1.Im]))] (cB [6] []) [q_, qn (.call [] (e_GApiValue r30_1)), q_, q_, q_] (aC hr30_1 aN) (by kernel_rfl) ?_
 refine W_ret ?_
 exact kr [] _ _ (by kernel_rfl) (oinj h)
 refine W_z mixed [(7, aI .u8 1), (8, aB true)] [6] [k_ 6] (cB [6] []) (qz 4 []) aN (by kernel_rfl) ?_
 refine W_ret ?_
 exact kr [] _ _ (by kernel_rfl) (oinj h)
noncomputable def oper_ints (a0 : Int) (a1 : Int) (a2 : Int) : Option (GApiValue × Int × Bool) :=
  ((num_Compare a1 a2).bind fun (r1_2 : Int) => (if a0 = 1 then ((num_Add a1 a2).bind fun (r6_2 : Int) => oper_ints_j0 true r6_2) else (if a0 = 2 then ((num_Sub a1 a2).bind fun (r8_2 : Int) => oper_ints_j0 true r8_2) else (if a0 = 3 then ((num_Mul a1 a2).bind fun (r10_2 : Int) => oper_ints_j0 true r10_2) else (if a0 = 4 then ((num_Div a1 a2).bind fun (r12_2 : (Int × Bool)) => oper_ints_j0 r12_2.2 r12_2.1) else (if a0 = 5 then ((num_Rem a1 a2).bind fun (r14_2 : (Int × Bool)) => oper_ints_j0 r14_2.2 r14_2.1) else (if a0 = 8 then ((oper_truth (decide (r1_2 < 0))).bind fun (r16_2 : GApiValue) => (some (r16_2, 0, true))) else (if a0 = 9 then ((oper_truth (decide (r1_2 ≤ 0))).bind fun (r18_2 : GApiValue) => (some (r18_2, 0, true))) else (if a0 = 10 then ((oper_truth (decide (r1_2 > 0))).bind fun (r20_2 : GApiValue) => (some (r20_2, 0, true))) else (if a0 = 11 then ((oper_truth (decide (r1_2 ≥ 0))).bind fun (r22_2 : GApiValue) => (some (r22_2, 0, true))) else (if a0 = 6 then ((oper_truth (decide (r1_2 = 0))).bind fun (r24_2 : GApiValue) => (some (r24_2, 0, true))) else (if a0 = 7 then ((oper_truth (!(decide (r1_2 = 0)))).bind fun (r26_2 : GApiValue) => (some (r26_2, 0, true))) else (some ((GApiValue.mk 0 0 0 0), 0, false))))))))))))))
set_option maxRecDepth 100000 in
theorem oper_ints_ok {a0 : Int} {a1 : Int} {a2 : Int} {r_ : (GApiValue × Int × Bool)} (h : oper_ints a0 a1 a2 = some r_) : R_oper_ints a0 a1 a2 r_ := by
 unfold oper_ints at h
 refine fn_pureZ (enc := oper_ints_e) (by kernel_rfl) fun Q' kr kn => ?_
 refine W_z mixed [(6, .ptr 6 0)] [0, 1, 2] [(6, some (.box 23 [aI .u8 0, aI .i64 0, aI .i64 0, aI .i64 0]))] (cB [6] []) [q_, q_, q_] aN (by kernel_rfl) ?_
 obtain ⟨r1_2, hr1_2, h⟩ := bind_ok h
 have hr1_2 := num_Compare_ok hr1_2
 refine W_z mixed [(9, aI .i64 r1_2)] [0, 1, 2, 6] [k_ 6] (cB [6] []) [q_, q_, qn (.call [] (aI .i64 r1_2)), q_] (aC hr1_2 aN) (by kernel_rfl) ?_
 refine W_z mixed [(10, aB true)] [0, 1, 2, 6, 9] [k_ 6] (cB [6] []) [q_] aN (by kernel_rfl) ?_
 refine W_z mixed [] [0, 1, 2, 6, 9, 10] [k_ 6] (cB [6] []) [q_] aN (by kernel_rfl) ?_
 refine W_seq ?_
 refine W_z mixed [(15, aI .i64 a0)] [1, 2, 6, 9, 10] [k_ 6] (cB [6] []) [q_] aN (by kernel_rfl) ?_
 refine W_block ?_
 refine W_z mixed [(17, aB (decide (a0 = 1)))] [1, 2, 6, 9, 10, 15] [k_ 6] (cB [6] []) [q_, q_] aN (by kernel_rfl) ?_
 refine W_cd h (by kernel_rfl) (fun hx1 h => ?_) (fun hx1 h => ?_)
 obtain ⟨r6_2, hr6_2, h⟩ := bind_ok h
 have hr6_2 := num_Add_ok hr6_2
 refine W_zl mixed [(11, aI .i64 r6_2)] [6, 10] [k_ 6] (cB [6] []) [q_, q_, qn (.call [] (aI .i64 r6_2)), q_] (aC hr6_2 aN) (by kernel_rfl) ?_
 exact W_conv (cB [6] [] [6, 10, 11]) (by kernel_rfl) (oper_ints_j0_ok true r6_2 r_ _ kr h)
 refine W_z mixed [(22, aB (decide (a0 = 2)))] [1, 2, 6, 9, 10, 15] [k_ 6] (cB [6] []) [q_, q_] aN (by kernel_rfl) ?_
 refine W_cd h (by kernel_rfl) (fun hx2 h => ?_) (fun hx2 h => ?_)
 obtain ⟨r8_2, hr8_2, h⟩ := bind_ok h
 have hr8_2 := num_Sub_ok hr8_2
 refine W_zl mixed [(11, aI .i64 r8_2)] [6, 10] [k_ 6] (cB [6] []) [q_, q_, qn (.call [] (aI .i64 r8_2)), q_] (aC hr8_2 aN) (by kernel_rfl) ?_
 exact W_conv (cB [6] [] [6, 10, 11]) (by kernel_rfl) (oper_ints_j0_ok true r8_2 r_ _ kr h)
 refine W_z mixed [(27, aB (decide (a0 = 3)))] [1, 2, 6, 9, 10, 15] [k_ 6] (cB [6] []) [q_, q_] aN (by kernel_rfl) ?_
 refine W_cd h (by kernel_rfl) (fun hx3 h => ?_) (fun hx3 h => ?_)
 obtain ⟨r10_2, hr10_2, h⟩ := bind_ok h
 have hr10_2 := num_Mul_ok hr10_2
 refine W_zl mixed [(11, aI .i64 r10_2)] [6, 10] [k_ 6] (cB [6] []) [q_, q_, qn (.call [] (aI .i64 r10_2)), q_] (aC hr10_2 aN) (by kernel_rfl) ?_
 exact W_conv (cB [6] [] [6, 10, 11]) (by kernel_rfl) (oper_ints_j0_ok true r10_2 r_ _ kr h)
 refine W_z mixed [(32, aB (decide (a0 = 4)))] [1, 2, 6, 9, 15] [k_ 6] (cB [6] []) [q_, q_] aN (by kernel_rfl) ?_
 refine W_cd h (by kernel_rfl) (fun hx4 h => ?_) (fun hx4 h => ?_)
 obtain ⟨r12_2, hr12_2, h⟩ := bind_ok h
 have hr12_2 := num_Div_ok hr12_2
 refine W_zl mixed [(10, aB r12_2.2), (11, aI .i64 r12_2.1)] [6] [k_ 6] (cB [6] []) [q_, q_, qn (.call [] (.tup [aI .i64 r12_2.1, aB r12_2.2])), q_, q_, q_, q_, q_] (aC hr12_2 aN) (by kernel_rfl) ?_
 exact W_conv (cB [6] [] [6, 10, 11]) (by kernel_rfl) (oper_ints_j0_ok r12_2.2 r12_2.1 r_ _ kr h)
 refine W_z mixed [(40, aB (decide (a0 = 5)))] [1, 2, 6, 9, 15] [k_ 6] (cB [6] []) [q_, q_] aN (by kernel_rfl) ?_
 refine W_cd h (by kernel_rfl) (fun hx5 h => ?_) (fun hx5 h => ?_)
 obtain ⟨r14_2, hr14_2, h⟩ := bind_ok h
 have hr14_2 := num_Rem_ok hr14_2
 refine W_zl mixed [(10, aB r14_2.2), (11, aI .i64 r14_2.1)] [6] [k_ 6] (cB [6] []) [q_, q_, qn (.call [] (.tup [aI .i64 r14_2.1, aB r14_2.2])), q_, q_, q_, q_, q_] (aC hr14_2 aN) (by kernel_rfl) ?_
 exact W_conv (cB [6] [] [6, 10, 11]) (by kernel_rfl) (oper_ints_j0_ok r14_2.2 r14_2.1 r_ _ kr h)
 refine W_z mixed [(48, aB (decide (a0 = 8)))] [6, 9, 15] [k_ 6] (cB [6] []) [q_, q_] aN (by kernel_rfl) ?_
 refine W_cd h (by kernel_rfl) (fun hx6 h => ?_) (fun hx6 h => ?_)
 obtain ⟨r16_2, hr16_2, h⟩ := bind_ok h
 have hr16_2 := oper_truth_ok hr16_2
 refine W_z mixed [(7, aI .u8 0), (8, aB true)] [6] [(6, some (.box 23 [aI .u8 r16_2.Kind, aI .i64 r16_2.N, aI .i64 r16_2.Re, aI .i64 r16_2.Im]))] (cB [6] []) [q_, q_, qn (.call [] (e_GApiValue r16_2)), q_, q_, q_] (aC hr16_2 aN) (by kernel_rfl) ?_
 refine W_ret ?_
 exact kr [] _ _ (by kernel_rfl) (oinj h)
 refine W_z mixed [(53, aB (decide (a0 = 9)))] [6, 9, 15] [k_ 6] (cB [6] []) [q_, q_] aN (by kernel_rfl) ?_
 refine W_cd h (by kernel_rfl) (fun hx7 h => ?_) (fun hx7 h => ?_)
 obtain ⟨r18_2, hr18_2, h⟩ := bind_ok h
 have hr18_2 := oper_truth_ok hr18_2
 refine W_z mixed [(7, aI .u8 0), (8, aB true)] [6] [(6, some (.box 23 [aI .u8 r18_2.Kind, aI .i64 r18_2.N, aI .i64 r18_2.Re, aI .i64 r18_2.Im]))] (cB [6] []) [q_, q_, qn (.call [] (e_GApiValue r18_2)), q_, q_, q_] (aC hr18_2 aN) (by kernel_rfl) ?_
 refine W_ret ?_
 exact kr [] _ _ (by kernel_rfl) (oinj h)
 refine W_z mixed [(58, aB (decide (a0 = 10)))] [6, 9, 15] [k_ 6] (cB [6] []) [q_, q_] aN (by kernel_rfl) ?_
 refine W_cd h (by kernel_rfl) (fun hx8 h => ?_) (fun hx8 h => ?_)
 obtain ⟨r20_2, hr20_2, h⟩ := bind_ok h
 have hr20_2 := oper_truth_ok hr20_2
 refine W_z mixed [(7, aI .u8 0), (8, aB true)] [6] [(6, some (.box 23 [aI .u8 r20_2.Kind, aI .i64 r20_2.N, aI .i64 r20_2.Re, aI .i64 r20_2.Im]))] (cB [6] []) [q_, q_, qn (.call [] (e_GApiValue r20_2)), q_, q_, q_] (aC hr20_2 aN) (by kernel_rfl) ?_
 refine W_ret ?_
 exact kr [] _ _ (by kernel_rfl) (oinj h)
 refine W_z mixed [(63, aB (decide (a0 = 11)))] [6, 9, 15] [k_ 6] (cB [6] []) [q_, q_] aN (by kernel_rfl) ?_
 refine W_cd h (by kernel_rfl) (fun hx9 h => ?_) (fun hx9 h => ?_)
 obtain ⟨r22_2, hr22_2, h⟩ := bind_ok h
 have hr22_2 := oper_truth_ok hr22_2
 refine W_z mixed [(7, aI .u8 0), (8, aB true)] [6] [(6, some (.box 23 [aI .u8 r22_2.Kind, aI .i64 r22_2.N, aI .i64 r22_2.Re, aI .i64 r22_2.Im]))] (cB [6] []) [q_, q_, qn (.call [] (e_GApiValue r22_2)), q_, q_, q_] (aC hr22_2 aN) (by kernel_rfl) ?_
 refine W_ret ?_
 exact kr [] _ _ (by kernel_rfl) (oinj h)
 refine W_z mixed [(68, aB (decide (a0 = 6)))] [6, 9, 15] [k_ 6] (cB [6] []) [q_, q_] aN (by kernel_rfl) ?_
 refine W_cd h (by kernel_rfl) (fun hx10 h => ?_) (fun hx10 h => ?_)
 obtain ⟨r24_2, hr24_2, h⟩ := bind_ok h
 have hr24_2 := oper_truth_ok hr24_2
 refine W_z mixed [(7, aI .u8 0), (8, aB true)] [6] [(6, some (.box 23 [aI .u8 r24_2.Kind, aI .i64 r24_2.N, aI .i64 r24_2.Re, aI .i64 r24_2.Im]))] (cB [6] []) [q_, q_, qn (.call [] (e_GApiValue r24_2)), q_, q_, q_] (aC hr24_2 aN) (by kernel_rfl) ?_
 refine W_ret ?_
 exact kr [] _ _ (by kernel_rfl) (oinj h)
 refine W_z mixed [(73, aB (decide (a0 = 7)))] [6, 9] [k_ 6] (cB [6] []) [q_, q_] aN (by kernel_rfl) ?_
 refine W_cd h (by kernel_rfl) (fun hx11 h => ?_) (fun hx11 h => ?_)
 obtain ⟨r26_2, hr26_2, h⟩ := bind_ok h
 have hr26_2 := oper_truth_ok hr26_2
 refine W_z mixed [(7, aI .u8 0), (8, aB true)] [6] [(6, some (.box 23 [aI .u8 r26_2.Kind, aI .i64 r26_2.N, aI .i64 r26_2.Re, aI .i64 r26_2.Im]))] (cB [6] []) [q_, q_, qn (.call [] (e_GApiValue r26_2)), q_, q_, q_] (aC hr26_2 aN) (by kernel_rfl) ?_
 refine W_ret ?_
 exact kr [] _ _ (by kernel_rfl) (oinj h)
 refine W_z mixed [(7, aI .u8 0), (8, aB false)] [6] [k_ 6] (cB [6] []) (qz 4 []) aN (by kernel_rfl) ?_
 refine W_ret ?_
 exact kr [] _ _ (by kernel_rfl) (oinj h)
def R_gauss_Add (a0 : GApiComp) (a1 : GApiComp) (r : GApiComp) : Prop := FnP Try.prog 80 [e_GApiComp a0, e_GApiComp a1] (e_GApiComp r)
abbrev gauss_Add_e (x : GApiComp) : A := (e_GApiComp x)
noncomputable def gauss_Add (a0 : GApiComp) (a1 : GApiComp) : Option GApiComp :=
  ((gauss_number a0).bind fun (r1_1 : (Nat × Nat)) => ((gauss_number a1).bind fun (r1_3 : (Nat × Nat)) => ((cAdd ((r1_1.1, r1_1.2)) ((r1_3.1, r1_3.2))).bind fun (c1_4 : Nat × Nat) => ((gauss_back c1_4).bind fun (r1_5 : GApiComp) => (some r1_5)))))
set_option maxRecDepth 100000 in
theorem gauss_Add_ok {a0 : GApiComp} {a1 : GApiComp} {r_ : GApiComp} (h : gauss_Add a0 a1 = some r_) : R_gauss_Add a0 a1 r_ := by
 unfold gauss_Add at h
 refine fn_pureZ (enc := gauss_Add_e) (by kernel_rfl) fun Q' kr kn => ?_
 refine W_z mixed [(2, .ptr 2 0), (3, .ptr 3 0), (4, .ptr 4 0)] [] [(2, some (.box 69 [aI .i64 a0.Re, aI .i64 a0.Im])), (3, some (.box 69 [aI .i64 a1.Re, aI .i64 a1.Im])), (4, some (.box 69 [aI .i64 0, aI .i64 0]))] (cB [2, 3, 4] []) [q_, q_, q_] aN (by kernel_rfl) ?_
 obtain ⟨r1_1, hr1_1, h⟩ := bind_ok h
 have hr1_1 := gauss_number_ok hr1_1
 obtain ⟨r1_3, hr1_3, h⟩ := bind_ok h
 have hr1_3 := gauss_number_ok hr1_3
 obtain ⟨c1_4, hc1_4, h⟩ := bind_ok h
 obtain ⟨r1_5, hr1_5, h⟩ := bind_ok h
 have hr1_5 := gauss_back_ok hr1_5
 refine W_z mixed [] [4] [(4, some (.box 69 [aI .i64 r1_5.Re, aI .i64 r1_5.Im]))] (cB [4] []) [q_, qn (.call [] (aC2 r1_1.1 r1_1.2)), q_, qn (.call [] (aC2 r1_3.1 r1_3.2)), qn (.quiet (aC2 c1_4.1 c1_4.2)), qn (.call [] (e_GApiComp r1_5)), q_] (aC hr1_1 (aC hr1_3 (aC (show Quiet Try.prog (opAt (subC (bodyC Try.prog 80) [1, 0]) 4) [aC2 r1_1.1 r1_1.2, aC2 r1_3.1 r1_3.2] (aC2 c1_4.1 c1_4.2) from cadd_ob (by rfl) hc1_4) (aC hr1_5 aN)))) (by kernel_rfl) ?_
 refine W_ret ?_
 exact kr [] _ _ (by kernel_rfl) (oinj h)
def R_gauss_Sub (a0 : GApiComp) (a1 : GApiComp) (r : GApiComp) : Prop := FnP Try.prog 81 [e_GApiComp a0, e_GApiComp a1] (e_GApiComp r)
abbrev gauss_Sub_e (x : GApiComp) : A := (e_GApiComp x)
noncomputable def gauss_Sub (a0 : GApiComp) (a1 : GApiComp) : Option GApiComp :=
  ((gauss_number a0).bind fun (r1_1 : (Nat × Nat)) => ((gauss_number a1).bind fun (r1_3 : (Nat × Nat)) => ((cSub ((r1_1.1, r1_1.2)) ((r1_3.1, r1_3.2))).bind fun (c1_4 : Nat × Nat) => ((gauss_back c1_4).bind fun (r1_5 : GApiComp) => (some r1_5)))))
set_option maxRecDepth 100000 in
theorem gauss_Sub_ok {a0 : GApiComp} {a1 : GApiComp} {r_ : GApiComp} (h : gauss_Sub a0 a1 = some r_) : R_gauss_Sub a0 a1 r_ := by
 unfold gauss_Sub at h
 refine fn_pureZ (enc := gauss_Sub_e) (by kernel_rfl) fun Q' kr kn => ?_
 refine W_z mixed [(2, .ptr 2 0), (3, .ptr 3 0), (4, .ptr 4 0)] [] [(2, some (.box 69 [aI .i64 a0.Re, aI .i64 a0.Im])), (3, some (.box 69 [aI .i64 a1.Re, aI .i64 a1.Im])), (4, some (.box 69 [aI .i64 0, aI .i64 0]))] (cB [2, 3, 4] []) [q_, q_, q_] aN (by kernel_rfl) ?_
 obtain ⟨r1_1, hr1_1, h⟩ := bind_ok h
 have hr1_1 := gauss_number_ok hr1_1
 obtain ⟨r1_3, hr1_3, h⟩ := bind_ok h
 have hr1_3 := gauss_number_ok hr1_3
 obtain ⟨c1_4, hc1_4, h⟩ := bind_ok h
 obtain ⟨r1_5, hr1_5, h⟩ := bind_ok h
 have hr1_5 := gauss_back_ok hr1_5
 refine W_z mixed [] [4] [(4, some (.box 69 [aI .i64 r1_5.Re, aI .i64 r1_5.Im]))] (cB [4] []) [q_, qn (.call [] (aC2 r1_1.1 r1_1.2)), q_, qn (.call [] (aC2 r1_3.1 r1_3.2)), qn (.quiet (aC2 c1_4.1 c1_4.2)), qn (.call [] (e_GApiComp r1_5)), q_] (aC hr1_1 (aC hr1_3 (aC (show Quiet Try.prog (opAt (subC (bodyC Try.prog 81) [1, 0]) 4) [aC2 r1_1.1 r1_1.2, aC2 r1_3.1 r1_3.2] (aC2 c1_4.1 c1_4.2) from csub_ob (by rfl) hc1_4) (aC hr1_5 aN)))) (by kernel_rfl) ?_
 refine W_ret ?_
 exact kr [] _ _ (by kernel_rfl) (oinj h)
def R_gauss_Mul (a0 : GApiComp) (a1 : GApiComp) (r : GApiComp) : Prop := FnP Try.prog 82 [e_GApiComp a0, e_GApiComp a1] (e_GApiComp r)
abbrev gauss_Mul_e (x : GApiComp) : A := (e_GApiComp x)
noncomputable def gauss_Mul (a0 : GApiComp) (a1 : GApiComp) : Option GApiComp :=
  ((gauss_number a0).bind fun (r1_1 : (Nat × Nat)) => ((gauss_number a1).bind fun (r1_3 : (Nat × Nat)) => ((cMul ((r1_1.1, r1_1.2)) ((r1_3.1, r1_3.2))).bind fun (c1_4 : Nat × Nat) => ((gauss_back c1_4).bind fun (r1_5 : GApiComp) => (some r1_5)))))
set_option maxRecDepth 100000 in
theorem gauss_Mul_ok {a0 : GApiComp} {a1 : GApiComp} {r_ : GApiComp} (h : gauss_Mul a0 a1 = some r_) : R_gauss_Mul a0 a1 r_ := by
 unfold gauss_Mul at h
 refine fn_pureZ (enc := gauss_Mul_e) (by kernel_rfl) fun Q' kr kn => ?_
 refine W_z mixed [(2, .ptr 2 0), (3, .ptr 3 0), (4, .ptr 4 0)] [] [(2, some (.box 69 [aI .i64 a0.Re, aI .i64 a0.Im])), (3, some (.box 69 [aI .i64 a1.Re, aI .i64 a1.Im])), (4, some (.box 69 [aI .i64 0, aI .i64 0]))] (cB [2, 3, 4] []) [q_, q_, q_] aN (by kernel_rfl) ?_
 obtain ⟨r1_1, hr1_1, h⟩ := bind_ok h
 have hr1_1 := gauss_number_ok hr1_1
 obtain ⟨r1_3, hr1_3, h⟩ := bind_ok h
 have hr1_3 := gauss_number_ok hr1_3
 obtain ⟨c1_4, hc1_4, h⟩ := bind_ok h
 obtain ⟨r1_5, hr1_5, h⟩ := bind_ok h
 have hr1_5 := gauss_back_ok hr1_5
 refine W_z mixed [] [4] [(4, some (.box 69 [aI .i64 r1_5.Re, aI .i64 r1_5.Im]))] (cB [4] []) [q_, qn (.call [] (aC2 r1_1.1 r1_1.2)), q_, qn (.call [] (aC2 r1_3.1 r1_3.2)), qn (.quiet (aC2 c1_4.1 c1_4.2)), qn (.call [] (e_GApiComp r1_5)), q_] (aC hr1_1 (aC hr1_3 (aC (show Quiet Try.prog (opAt (subC (bodyC Try.prog 82) [1, 0]) 4) [aC2 r1_1.1 r1_1.2, aC2 r1_3.1 r1_3.2] (aC2 c1_4.1 c1_4.2) from cmul_ob (by rfl) hc1_4) (aC hr1_5 aN)))) (by kernel_rfl) ?_
 refine W_ret ?_
 exact kr [] _ _ (by kernel_rfl) (oinj h)
def R_oper_comps (a0 : Int) (a1 : GApiComp) (a2 : GApiComp) (r : (GApiValue × Bool)) : Prop := FnP Try.prog 47 [aI .i64 a0, e_GApiComp a1, e_GApiComp a2] (.tup [e_GApiValue r.1, aB r.2])
abbrev oper_comps_e (x : (GApiValue × Bool)) : A := (.tup [e_GApiValue x.1, aB x.2])
noncomputable def oper_comps (a0 : Int) (a1 : GApiComp) (a2 : GApiComp) : Option (GApiValue × Bool) :=
  (if a0 = 1 then ((gauss_Add a1 a2).bind fun (r3_2 : GApiComp) => ((oper_value r3_2).bind fun (r3_3 : GApiValue) => (some (r3_3, true)))) else (if a0 = 2 then ((gauss_Sub a1 a2).bind fun (r5_2 : GApiComp) => ((oper_value r5_2).bind fun (r5_3 : GApiValue) => (some (r5_3, true)))) else (if a0 = 3 then ((gauss_Mul a1 a2).bind fun (r7_2 : GApiComp) => ((oper_value r7_2).bind fun (r7_3 : GApiValue) => (some (r7_3, true)))) else ((oper_same a0 (decide (a1.Re = a2.Re) && decide (a1.Im = a2.Im))).bind fun (r8_4 : (GApiValue × Bool)) => (some (r8_4.1, r8_4.2))))))
set_option maxRecDepth 100000 in
theorem oper_comps_ok {a0 : Int} {a1 : GApiComp} {a2 : GApiComp} {r_ : (GApiValue × Bool)} (h : oper_comps a0 a1 a2 = some r_) : R_oper_comps a0 a1 a2 r_ := by
 unfold oper_comps at h
 refine fn_pureZ (enc := oper_comps_e) (by kernel_rfl) fun Q' kr kn => ?_
 refine W_z mixed [(4, .ptr 4 0), (5, .ptr 5 0), (6, .ptr 6 0)] [0] [(4, some (.box 69 [aI .i64 a1.Re, aI .i64 a1.Im])), (5, some (.box 69 [aI .i64 a2.Re, aI .i64 a2.Im])), (6, some (.box 23 [aI .u8 0, aI .i64 0, aI .i64 0, aI .i64 0]))] (cB [4, 5, 6] []) (qz 4 []) aN (by kernel_rfl) ?_
 refine W_seq ?_
 refine W_z mixed [(8, aI .i64 a0)] [0, 4, 5, 6] [k_ 4, k_ 5, k_ 6] (cB [4, 5, 6] []) [q_] aN (by kernel_rfl) ?_
 refine W_block ?_
 refine W_z mixed [(9, aB (decide (a0 = 1)))] [0, 4, 5, 6, 8] [k_ 4, k_ 5, k_ 6] (cB [4, 5, 6] []) [q_, q_] aN (by kernel_rfl) ?_
 refine W_cd h (by kernel_rfl) (fun hx1 h => ?_) (fun hx1 h => ?_)
 obtain ⟨r3_2, hr3_2, h⟩ := bind_ok h
 have hr3_2 := gauss_Add_ok hr3_2
 obtain ⟨r3_3, hr3_3, h⟩ := bind_ok h
 have hr3_3 := oper_value_ok hr3_3
 refine W_z mixed [(7, aB true)] [6] [(6, some (.box 23 [aI .u8 r3_3.Kind, aI .i64 r3_3.N, aI .i64 r3_3.Re, aI .i64 r3_3.Im]))] (cB [6] []) [q_, q_, qn (.call [] (e_GApiComp r3_2)), qn (.call [] (e_GApiValue r3_3)), q_, q_] (aC hr3_2 (aC hr3_3 aN)) (by kernel_rfl) ?_
 refine W_ret ?_
 exact kr [] _ _ (by kernel_rfl) (oinj h)
 refine W_z mixed [(15, aB (decide (a0 = 2)))] [0, 4, 5, 6, 8] [k_ 4, k_ 5, k_ 6] (cB [4, 5, 6] []) [q_, q_] aN (by kernel_rfl) ?_
 refine W_cd h (by kernel_rfl) (fun hx2 h => ?_) (fun hx2 h => ?_)
 obtain ⟨r5_2, hr5_2, h⟩ := bind_ok h
 have hr5_2 := gauss_Sub_ok hr5_2
 obtain ⟨r5_3, hr5_3, h⟩ := bind_ok h
 have hr5_3 := oper_value_ok hr5_3
 refine W_z mixed [(7, aB true)] [6] [(6, some (.box 23 [aI .u8 r5_3.Kind, aI .i64 r5_3.N, aI .i64 r5_3.Re, aI .i64 r5_3.Im]))] (cB [6] []) [q_, q_, qn (.call [] (e_GApiComp r5_2)), qn (.call [] (e_GApiValue r5_3)), q_, q_] (aC hr5_2 (aC hr5_3 aN)) (by kernel_rfl) ?_
 refine W_ret ?_
 exact kr [] _ _ (by kernel_rfl) (oinj h)
 refine W_z mixed [(21, aB (decide (a0 = 3)))] [0, 4, 5, 6] [k_ 4, k_ 5, k_ 6] (cB [4, 5, 6] []) [q_, q_] aN (by kernel_rfl) ?_
 refine W_cd h (by kernel_rfl) (fun hx3 h => ?_) (fun hx3 h => ?_)
 obtain ⟨r7_2, hr7_2, h⟩ := bind_ok h
 have hr7_2 := gauss_Mul_ok hr7_2
 obtain ⟨r7_3, hr7_3, h⟩ := bind_ok h
 have hr7_3 := oper_value_ok hr7_3
 refine W_z mixed [(7, aB true)] [6] [(6, some (.box 23 [aI .u8 r7_3.Kind, aI .i64 r7_3.N, aI .i64 r7_3.Re, aI .i64 r7_3.Im]))] (cB [6] []) [q_, q_, qn (.call [] (e_GApiComp r7_2)), qn (.call [] (e_GApiValue r7_3)), q_, q_] (aC hr7_2 (aC hr7_3 aN)) (by kernel_rfl) ?_
 refine W_ret ?_
 exact kr [] _ _ (by kernel_rfl) (oinj h)
 refine W_skip ?_
 obtain ⟨r8_4, hr8_4, h⟩ := bind_ok h
 have hr8_4 := oper_same_ok hr8_4
 refine W_z mixed [(7, aB r8_4.2)] [6] [(6, some (.box 23 [aI .u8 r8_4.1.Kind, aI .i64 r8_4.1.N, aI .i64 r8_4.1.Re, aI .i64 r8_4.1.Im]))] (cB [6] []) [q_, q_, q_, qn (.quiet (aB (decide (a1.Re = a2.Re) && decide (a1.Im = a2.Im)))), qn (.call [] (.tup [e_GApiValue r8_4.1, aB r8_4.2])), q_, q_, q_, q_] (aC (show Quiet Try.prog (opAt (subC (bodyC Try.prog 47) [1, 1, 0]) 3) [e_GApiComp a1, e_GApiComp a2] (aB (decide (a1.Re = a2.Re) && decide (a1.Im = a2.Im))) from eqA_ob (P := Try.prog) (ne := false) (xs := [.int .i64 a1.Re, .int .i64 a1.Im]) (ys := [.int .i64 a2.Re, .int .i64 a2.Im]) (hh := none) ⟨_, by rfl⟩ (by kernel_rfl) (by kernel_rfl)) (aC hr8_4 aN)) (by kernel_rfl) ?_
 refine W_ret ?_
 exact kr [] _ _ (by kernel_rfl) (oinj h)
def RI_oper_made (a0 : GHeapHeap) (a1 : (List UInt8)) (r : (GApiValue × Int × Bool × GHeapHeap)) : Prop := FnIO Try.prog 48 [.ob 900, aS a1] [(900, .obj (.any (rep_GHeapHeap a0)))] (.tup [e_GApiValue r.1, aI .u8 r.2.1, aB r.2.2.1]) [(900, .obj (.any (rep_GHeapHeap r.2.2.2)))]
abbrev oper_made_e (x : (GApiValue × Int × Bool × GHeapHeap)) : A × List (Nat × Blk) := ((.tup [e_GApiValue x.1, aI .u8 x.2.1, aB x.2.2.1]), [(900, .obj (.any (rep_GHeapHeap x.2.2.2)))])
noncomputable def oper_made (a0 : GHeapHeap) (a1 : (List UInt8)) : Option (GApiValue × Int × Bool × GHeapHeap) :=
  ((xheap_Heap_Str a0 a1).bind fun (r1_2 : (GApiValue × Bool × GHeapHeap)) => (if r1_2.2.1 = true then (some (r1_2.1, 0, true, r1_2.2.2)) else (some ((GApiValue.mk 0 0 0 0), 4, true, r1_2.2.2))))
set_option maxRecDepth 100000 in
theorem oper_made_ok {a0 : GHeapHeap} {a1 : (List UInt8)} {r_ : (GApiValue × Int × Bool × GHeapHeap)} (h : oper_made a0 a1 = some r_) : RI_oper_made a0 a1 r_ := by
 unfold oper_made at h
 refine fn_ioZ (enc := oper_made_e) (by kernel_rfl) (by kernel_rfl) fun Q' kr kn => ?_
 refine W_z mixed [(4, .ptr 4 0)] [0, 1] [(4, some (.box 23 [aI .u8 0, aI .i64 0, aI .i64 0, aI .i64 0])), k_ 900] (cB [4] [900]) [q_, q_, q_] aN (by kernel_rfl) ?_
 obtain ⟨r1_2, hr1_2, h⟩ := bind_ok h
 have hr1_2 := xheap_Heap_Str_ok hr1_2
 refine W_z mixed [(7, .ptr 7 0), (8, aB r1_2.2.1)] [4] [k_ 4, (7, some (.box 23 [aI .u8 r1_2.1.Kind, aI .i64 r1_2.1.N, aI .i64 r1_2.1.Re, aI .i64 r1_2.1.Im])), (900, some (.obj (.any (rep_GHeapHeap r1_2.2.2))))] (cB [4, 7] [900]) (q_ :: q_ :: qn (.io ⟨[], [(900, 900)], [], [], [], [], [(900, 900)]⟩ (.tup [e_GApiValue r1_2.1, aB r1_2.2.1]) [(900, .obj (.any (rep_GHeapHeap r1_2.2.2)))]) :: (qz 6 [])) (aC hr1_2 aN) (by kernel_rfl) ?_
 refine W_seq ?_
 refine W_z mixed [(16, aB (!r1_2.2.1))] [4, 7] [k_ 4, k_ 7, k_ 900] (cB [4, 7] [900]) [q_, q_] aN (by kernel_rfl) ?_
 refine W_cbn h (by kernel_rfl) (fun hx1 h => ?_) (fun hx1 h => ?_)
 refine W_skip ?_
 refine W_z mixed [(5, aI .u8 0), (6, aB true)] [4] [(4, some (.box 23 [aI .u8 r1_2.1.Kind, aI .i64 r1_2.1.N, aI .i64 r1_2.1.Re, aI .i64 r1_2.1.Im])), k_ 900] (cB [4] [900]) (qz 4 []) aN (by kernel_rfl) ?_
 refine W_ret ?_
 exact kr (cR [900] []) _ (r1_2.1, 0, true, r1_2.2.2) (by kernel_rfl) (oinj h)
 refine W_z mixed [(5, aI .u8 4), (6, aB true)] [4] [k_ 4, k_ 900] (cB [4] [900]) (qz 4 []) aN (by kernel_rfl) ?_
 refine W_ret ?_
 exact kr (cR [900] []) _ ((GApiValue.mk 0 0 0 0), 4, true, r1_2.2.2) (by kernel_rfl) (oinj h)
def RI_oper_Bin (a0 : GHeapHeap) (a1 : Int) (a2 : GApiValue) (a3 : GApiValue) (r : (GApiValue × Int × Bool × GHeapHeap)) : Prop := FnIO Try.prog 17 [.ob 900, aI .i64 a1, e_GApiValue a2, e_GApiValue a3] [(900, .obj (.any (rep_GHeapHeap a0)))] (.tup [e_GApiValue r.1, aI .u8 r.2.1, aB r.2.2.1]) [(900, .obj (.any (rep_GHeapHeap r.2.2.2)))]
abbrev oper_Bin_e (x : (GApiValue × Int × Bool × GHeapHeap)) : A × List (Nat × Blk) := ((.tup [e_GApiValue x.1, aI .u8 x.2.1, aB x.2.2.1]), [(900, .obj (.any (rep_GHeapHeap x.2.2.2)))])
noncomputable def oper_Bin_j2 (a0 : GHeapHeap) : Option (GApiValue × Int × Bool × GHeapHeap) :=
  (some ((GApiValue.mk 0 0 0 0), 0, false, a0))
noncomputable def oper_Bin_j0 (a1 : Int) (r16_2 : ((List UInt8) × Bool)) (r17_2 : ((List UInt8) × Bool)) (a0 : GHeapHeap) : Option (GApiValue × Int × Bool × GHeapHeap) :=
  (if r16_2.2 = true then (if r17_2.2 = true then ((oper_same a1 (decide (r16_2.1 = r17_2.1))).bind fun (r21_4 : (GApiValue × Bool)) => (some (r21_4.1, 0, r21_4.2, a0))) else oper_Bin_j2 a0) else oper_Bin_j2 a0)
noncomputable def oper_Bin_j1 (a1 : Int) (a2 : GApiValue) (a3 : GApiValue) (a0 : GHeapHeap) : Option (GApiValue × Int × Bool × GHeapHeap) :=
  (if a2.Kind = a3.Kind then (if a2.Kind = 1 then ((oper_ints a1 a2.N a3.N).bind fun (r8_5 : (GApiValue × Int × Bool)) => (some (r8_5.1, r8_5.2.1, r8_5.2.2, a0))) else (if a2.Kind = 2 then ((oper_same a1 ((!(decide (a2.N = 0))) == (!(decide (a3.N = 0))))).bind fun (r10_8 : (GApiValue × Bool)) => (some (r10_8.1, 0, r10_8.2, a0))) else (if a2.Kind = 4 then ((oper_comp a2).bind fun (r13_2 : GApiComp) => ((oper_comp a3).bind fun (r13_4 : GApiComp) => ((oper_comps a1 r13_2 r13_4).bind fun (r13_5 : (GApiValue × Bool)) => (some (r13_5.1, 0, r13_5.2, a0))))) else (if a2.Kind = 3 then ((xheap_Heap_Text a0 a2).bind fun (r16_2 : ((List UInt8) × Bool)) => ((xheap_Heap_Text a0 a3).bind fun (r17_2 : ((List UInt8) × Bool)) => (if r16_2.2 = true then (if r17_2.2 = true then (if a1 = 1 then (if CatOb r16_2.1 r17_2.1 then ((oper_made a0 (r16_2.1 ++ r17_2.1)).bind fun (r19_4 : (GApiValue × Int × Bool × GHeapHeap)) => (some (r19_4.1, r19_4.2.1, r19_4.2.2.1, r19_4.2.2.2))) else none) else oper_Bin_j0 a1 r16_2 r17_2 a0) else oper_Bin_j0 a1 r16_2 r17_2 a0) else oper_Bin_j0 a1 r16_2 r17_2 a0))) else oper_Bin_j2 a0)))) else (some ((GApiValue.mk 0 0 0 0), 0, false, a0)))
def oper_Bin_j0_s (a1 : Int) (r16_2 : ((List UInt8) × Bool)) (r17_2 : ((List UInt8) × Bool)) (a0 : GHeapHeap) : LS := LS.mk 146 [(1, aI .i64 a1), (8, .ptr 8 0), (17, aS r16_2.1), (18, aB r16_2.2), (19, aS r17_2.1), (20, aB r17_2.2)] [(8, some (.box 23 [aI .u8 0, aI .i64 0, aI .i64 0, aI .i64 0])), (900, some (.obj (.any (rep_GHeapHeap a0))))]
def oper_Bin_j2_s (a0 : GHeapHeap) : LS := LS.mk 146 [(8, .ptr 8 0)] [(8, some (.box 23 [aI .u8 0, aI .i64 0, aI .i64 0, aI .i64 0])), (900, some (.obj (.any (rep_GHeapHeap a0))))]
def oper_Bin_j1_s (a1 : Int) (a2 : GApiValue) (a3 : GApiValue) (a0 : GHeapHeap) : LS := LS.mk 146 [(0, .ob 900), (1, aI .i64 a1), (6, .ptr 6 0), (7, .ptr 7 0), (8, .ptr 8 0)] [(6, some (.box 23 [aI .u8 a2.Kind, aI .i64 a2.N, aI .i64 a2.Re, aI .i64 a2.Im])), (7, some (.box 23 [aI .u8 a3.Kind, aI .i64 a3.N, aI .i64 a3.Re, aI .i64 a3.Im])), (8, some (.box 23 [aI .u8 0, aI .i64 0, aI .i64 0, aI .i64 0])), (900, some (.obj (.any (rep_GHeapHeap a0))))]
set_option maxRecDepth 100000 in
theorem oper_Bin_j0_ok (a1 : Int) (r16_2 : ((List UInt8) × Bool)) (r17_2 : ((List UInt8) × Bool)) (a0 : GHeapHeap) (r_ : (GApiValue × Int × Bool × GHeapHeap)) (Q' : Exit → St → Prop) (kr : KRI Try.prog 17 oper_Bin_e r_ .ret Q') (k_n : KY (oper_Bin_j2 a0) r_ (oper_Bin_j2_s a0) .normal Q') (h : oper_Bin_j0 a1 r16_2 r17_2 a0 = some r_) : W Try.prog (subC (bodyC Try.prog 17) [1, 1, 1, 0, 1, 0, 1, 1, 1, 1, 1, 1, 1, 0, 1, 1, 1]) (oper_Bin_j0_s a1 r16_2 r17_2 a0).st Q' := by
 unfold oper_Bin_j0 at h
 refine ib_c h (fun hx1001 h => ?_) (fun hx1001 h => ?_)
 refine W_z mixed [(134, aB r17_2.2)] [1, 8, 17, 19] [k_ 8, k_ 900] (cB [8] [900]) [q_, q_, qt0, qn (.dec true)] (aC hx1001 (aC hx1001 aN)) (by kernel_rfl) ?_
 refine W_cb h (by kernel_rfl) (fun hx1002 h => ?_) (fun hx1002 h => ?_)
 obtain ⟨r21_4, hr21_4, h⟩ := bind_ok h
 have hr21_4 := oper_same_ok hr21_4
 refine W_z mixed [(21, .ptr 21 0), (22, aB r21_4.2)] [8] [k_ 8, (21, some (.box 23 [aI .u8 r21_4.1.Kind, aI .i64 r21_4.1.N, aI .i64 r21_4.1.Re, aI .i64 r21_4.1.Im])), k_ 900] (cB [8, 21] [900]) (q_ :: q_ :: q_ :: qn (.val (.bool (decide (r16_2.1 = r17_2.1)))) :: qn (.call [] (.tup [e_GApiValue r21_4.1, aB r21_4.2])) :: (qz 6 [])) (aC (str_eq_ob (P := Try.prog) 9 r16_2.1 r17_2.1) (aC hr21_4 aN)) (by kernel_rfl) ?_
 refine W_z mixed [(9, aI .u8 0), (10, aB r21_4.2)] [8] [(8, some (.box 23 [aI .u8 r21_4.1.Kind, aI .i64 r21_4.1.N, aI .i64 r21_4.1.Re, aI .i64 r21_4.1.Im])), k_ 900] (cB [8] [900]) (qz 5 []) aN (by kernel_rfl) ?_
 refine W_ret ?_
 exact kr (cR [900] []) _ (r21_4.1, 0, r21_4.2, a0) (by kernel_rfl) (oinj h)
 refine W_skip ?_
 exact k_n  _ h (convX_fits (v := (cB [8] [900] [8])) (by kernel_rfl))
 refine W_z mixed [(134, aB false)] [1, 8, 17, 19] [k_ 8, k_ 900] (cB [8] [900]) [q_, q_, qf0, qn (.dec false)] (aC hx1001 (aC hx1001 aN)) (by kernel_rfl) ?_
 refine W_cf (e := false) rfl (by kernel_rfl) ?_
 refine W_skip ?_
 exact k_n  _ h (convX_fits (v := (cB [8] [900] [8])) (by kernel_rfl))
set_option maxRecDepth 100000 in
theorem oper_Bin_j2_ok (a0 : GHeapHeap) (r_ : (GApiValue × Int × Bool × GHeapHeap)) (Q' : Exit → St → Prop) (kr : KRI Try.prog 17 oper_Bin_e r_ .ret Q')  (h : oper_Bin_j2 a0 = some r_) : W Try.prog (subC (bodyC Try.prog 17) [1, 1, 1, 1]) (oper_Bin_j2_s a0).st Q' := by
 unfold oper_Bin_j2 at h
 refine W_z mixed [(9, aI .u8 0), (10, aB false)] [8] [k_ 8, k_ 900] (cB [8] [900]) (qz 4 []) aN (by kernel_rfl) ?_
 refine W_ret ?_
 exact kr (cR [900] []) _ ((GApiValue.mk 0 0 0 0), 0, false, a0) (by kernel_rfl) (oinj h)
set_option maxRecDepth 100000 in
theorem oper_Bin_j1_ok (a1 : Int) (a2 : GApiValue) (a3 : GApiValue) (a0 : GHeapHeap) (r_ : (GApiValue × Int × Bool × GHeapHeap)) (Q' : Exit → St → Prop) (kr : KRI Try.prog 17 oper_Bin_e r_ .ret Q')  (h : oper_Bin_j1 a1 a2 a3 a0 = some r_) : W Try.prog (subC (bodyC Try.prog 17) [1, 1]) (oper_Bin_j1_s a1 a2 a3 a0).st Q' := by
 unfold oper_Bin_j1 at h
 refine W_seq ?_
 refine W_z mixed [(57, aB (!(decide (a2.Kind = a3.Kind))))] [0, 1, 6, 7, 8] [k_ 6, k_ 7, k_ 8, k_ 900] (cB [6, 7, 8] [900]) (qz 5 []) aN (by kernel_rfl) ?_
 refine W_cdn h (by kernel_rfl) (fun hx2001 h => ?_) (fun hx2001 h => ?_)
 refine W_skip ?_
 refine W_seq ?_
 refine W_z mixed [(60, aI .u8 a2.Kind)] [0, 1, 6, 7, 8] [k_ 6, k_ 7, k_ 8, k_ 900] (cB [6, 7, 8] [900]) [q_, q_] aN (by kernel_rfl) ?_
 refine W_block ?_
 refine W_z mixed [(61, aB (decide (a2.Kind = 1)))] [0, 1, 6, 7, 8, 60] [k_ 6, k_ 7, k_ 8, k_ 900] (cB [6, 7, 8] [900]) [q_, q_] aN (by kernel_rfl) ?_
 refine W_cd h (by kernel_rfl) (fun hx2002 h => ?_) (fun hx2002 h => ?_)
 obtain ⟨r8_5, hr8_5, h⟩ := bind_ok h
 have hr8_5 := oper_ints_ok hr8_5
 refine W_z mixed [(9, aI .u8 r8_5.2.1), (10, aB r8_5.2.2)] [8] [(8, some (.box 23 [aI .u8 r8_5.1.Kind, aI .i64 r8_5.1.N, aI .i64 r8_5.1.Re, aI .i64 r8_5.1.Im])), k_ 900] (cB [8] [900]) (q_ :: q_ :: q_ :: q_ :: q_ :: qn (.call [] (.tup [e_GApiValue r8_5.1, aI .u8 r8_5.2.1, aB r8_5.2.2])) :: (qz 6 [])) (aC hr8_5 aN) (by kernel_rfl) ?_
 refine W_ret ?_
 exact kr (cR [900] []) _ (r8_5.1, r8_5.2.1, r8_5.2.2, a0) (by kernel_rfl) (oinj h)
 refine W_z mixed [(72, aB (decide (a2.Kind = 2)))] [0, 1, 6, 7, 8, 60] [k_ 6, k_ 7, k_ 8, k_ 900] (cB [6, 7, 8] [900]) [q_, q_] aN (by kernel_rfl) ?_
 refine W_cd h (by kernel_rfl) (fun hx2003 h => ?_) (fun hx2003 h => ?_)
 obtain ⟨r10_8, hr10_8, h⟩ := bind_ok h
 have hr10_8 := oper_same_ok hr10_8
 refine W_z mixed [(13, .ptr 13 0), (14, aB r10_8.2)] [8] [k_ 8, (13, some (.box 23 [aI .u8 r10_8.1.Kind, aI .i64 r10_8.1.N, aI .i64 r10_8.1.Re, aI .i64 r10_8.1.Im])), k_ 900] (cB [8, 13] [900]) (qz 8 (qn (.call [] (.tup [e_GApiValue r10_8.1, aB r10_8.2])) :: (qz 6 []))) (aC hr10_8 aN) (by kernel_rfl) ?_
 refine W_z mixed [(9, aI .u8 0), (10, aB r10_8.2)] [8] [(8, some (.box 23 [aI .u8 r10_8.1.Kind, aI .i64 r10_8.1.N, aI .i64 r10_8.1.Re, aI .i64 r10_8.1.Im])), k_ 900] (cB [8] [900]) (qz 5 []) aN (by kernel_rfl) ?_
 refine W_ret ?_
 exact kr (cR [900] []) _ (r10_8.1, 0, r10_8.2, a0) (by kernel_rfl) (oinj h)
 refine W_z mixed [(88, aB (decide (a2.Kind = 4)))] [0, 1, 6, 7, 8, 60] [k_ 6, k_ 7, k_ 8, k_ 900] (cB [6, 7, 8] [900]) [q_, q_] aN (by kernel_rfl) ?_
 refine W_cd h (by kernel_rfl) (fun hx2004 h => ?_) (fun hx2004 h => ?_)
 obtain ⟨r13_2, hr13_2, h⟩ := bind_ok h
 have hr13_2 := oper_comp_ok hr13_2
 obtain ⟨r13_4, hr13_4, h⟩ := bind_ok h
 have hr13_4 := oper_comp_ok hr13_4
 obtain ⟨r13_5, hr13_5, h⟩ := bind_ok h
 have hr13_5 := oper_comps_ok hr13_5
 refine W_z mixed [(15, .ptr 15 0), (16, aB r13_5.2)] [8] [k_ 8, (15, some (.box 23 [aI .u8 r13_5.1.Kind, aI .i64 r13_5.1.N, aI .i64 r13_5.1.Re, aI .i64 r13_5.1.Im])), k_ 900] (cB [8, 15] [900]) (q_ :: q_ :: qn (.call [] (e_GApiComp r13_2)) :: q_ :: qn (.call [] (e_GApiComp r13_4)) :: qn (.call [] (.tup [e_GApiValue r13_5.1, aB r13_5.2])) :: (qz 6 [])) (aC hr13_2 (aC hr13_4 (aC hr13_5 aN))) (by kernel_rfl) ?_
 refine W_z mixed [(9, aI .u8 0), (10, aB r13_5.2)] [8] [(8, some (.box 23 [aI .u8 r13_5.1.Kind, aI .i64 r13_5.1.N, aI .i64 r13_5.1.Re, aI .i64 r13_5.1.Im])), k_ 900] (cB [8] [900]) (qz 5 []) aN (by kernel_rfl) ?_
 refine W_ret ?_
 exact kr (cR [900] []) _ (r13_5.1, 0, r13_5.2, a0) (by kernel_rfl) (oinj h)
 refine W_z mixed [(101, aB (decide (a2.Kind = 3)))] [0, 1, 6, 7, 8] [k_ 6, k_ 7, k_ 8, k_ 900] (cB [6, 7, 8] [900]) [q_, q_] aN (by kernel_rfl) ?_
 refine W_cd h (by kernel_rfl) (fun hx2005 h => ?_) (fun hx2005 h => ?_)
 obtain ⟨r16_2, hr16_2, h⟩ := bind_ok h
 have hr16_2 := xheap_Heap_Text_ok hr16_2
 refine W_z mixed [(17, aS r16_2.1), (18, aB r16_2.2)] [0, 1, 7, 8] [k_ 7, k_ 8, k_ 900] (cB [7, 8] [900]) [q_, q_, qn (.io ⟨[], [(900, 900)], [], [], [], [], [(900, 900)]⟩ (.tup [aS r16_2.1, aB r16_2.2]) [(900, .obj (.any (rep_GHeapHeap a0)))]), q_, q_, q_, q_, q_] (aC hr16_2 aN) (by kernel_rfl) ?_
 obtain ⟨r17_2, hr17_2, h⟩ := bind_ok h
 have hr17_2 := xheap_Heap_Text_ok hr17_2
 refine W_z mixed [(19, aS r17_2.1), (20, aB r17_2.2)] [0, 1, 8, 17, 18] [k_ 8, k_ 900] (cB [8] [900]) [q_, q_, qn (.io ⟨[], [(900, 900)], [], [], [], [], [(900, 900)]⟩ (.tup [aS r17_2.1, aB r17_2.2]) [(900, .obj (.any (rep_GHeapHeap a0)))]), q_, q_, q_, q_, q_] (aC hr17_2 aN) (by kernel_rfl) ?_
 refine W_seq ?_
 refine ib_c h (fun hx2006 h => ?_) (fun hx2006 h => ?_)
 refine ib_c h (fun hx2007 h => ?_) (fun hx2007 h => ?_)
 refine W_z mixed [(122, aB (decide (a1 = 1)))] [0, 1, 8, 17, 18, 19, 20] [k_ 8, k_ 900] (cB [8] [900]) [q_, q_, qt0, qn (.dec true), q_, qt0, qt0, qn (.dec true)] (aC hx2006 (aC hx2006 (aC hx2007 (aC hx2007 (aC hx2007 aN))))) (by kernel_rfl) ?_
 refine W_cd h (by kernel_rfl) (fun hx2008 h => ?_) (fun hx2008 h => ?_)
 obtain ⟨hd2009, h⟩ := ite_ok h
 obtain ⟨r19_4, hr19_4, h⟩ := bind_ok h
 have hr19_4 := oper_made_ok hr19_4
 refine W_z mixed [(9, aI .u8 r19_4.2.1), (10, aB r19_4.2.2.1)] [8] [(8, some (.box 23 [aI .u8 r19_4.1.Kind, aI .i64 r19_4.1.N, aI .i64 r19_4.1.Re, aI .i64 r19_4.1.Im])), (900, some (.obj (.any (rep_GHeapHeap r19_4.2.2.2))))] (cB [8] [900]) (q_ :: q_ :: q_ :: qn (.val (.string (mkS (r16_2.1 ++ r17_2.1)))) :: qn (.io ⟨[], [(900, 900)], [], [], [], [], [(900, 900)]⟩ (.tup [e_GApiValue r19_4.1, aI .u8 r19_4.2.1, aB r19_4.2.2.1]) [(900, .obj (.any (rep_GHeapHeap r19_4.2.2.2)))]) :: (qz 6 [])) (aC (show BinOb Try.prog .add 9 (.string (mkS r16_2.1)) (.string (mkS r17_2.1)) (.string (mkS (r16_2.1 ++ r17_2.1))) from cat_ob _ hd2009) (aC hr19_4 aN)) (by kernel_rfl) ?_
 refine W_ret ?_
 exact kr (cR [900] []) _ (r19_4.1, r19_4.2.1, r19_4.2.2.1, r19_4.2.2.2) (by kernel_rfl) (oinj h)
 refine W_skip ?_
 exact W_conv (cB [8] [900] [1, 8, 17, 18, 19, 20]) (by kernel_rfl) (oper_Bin_j0_ok a1 r16_2 r17_2 a0 r_ _ kr (fun  s' h hf => W_pre hf (oper_Bin_j2_ok a0 r_ _ kr h)) h)
 refine W_z mixed [(122, aB false)] [0, 1, 8, 17, 18, 19, 20] [k_ 8, k_ 900] (cB [8] [900]) [q_, q_, qt0, qn (.dec true), q_, qf0, qf0, qn (.dec false)] (aC hx2006 (aC hx2006 (aC hx2007 (aC hx2007 (aC hx2007 aN))))) (by kernel_rfl) ?_
 refine W_cf (e := false) rfl (by kernel_rfl) ?_
 refine W_skip ?_
 exact W_conv (cB [8] [900] [1, 8, 17, 18, 19, 20]) (by kernel_rfl) (oper_Bin_j0_ok a1 r16_2 r17_2 a0 r_ _ kr (fun  s' h hf => W_pre hf (oper_Bin_j2_ok a0 r_ _ kr h)) h)
 refine W_z mixed [(122, aB false)] [0, 1, 8, 17, 18, 19, 20] [k_ 8, k_ 900] (cB [8] [900]) [q_, q_, qf0, qn (.dec false), q_, q_, q_, q_] (aC hx2006 (aC hx2006 aN)) (by kernel_rfl) ?_
 refine W_cf (e := false) rfl (by kernel_rfl) ?_
 refine W_skip ?_
 exact W_conv (cB [8] [900] [1, 8, 17, 18, 19, 20]) (by kernel_rfl) (oper_Bin_j0_ok a1 r16_2 r17_2 a0 r_ _ kr (fun  s' h hf => W_pre hf (oper_Bin_j2_ok a0 r_ _ kr h)) h)
 refine W_skip ?_
 exact W_conv (cB [8] [900] [8]) (by kernel_rfl) (oper_Bin_j2_ok a0 r_ _ kr h)
 refine W_z mixed [(9, aI .u8 0), (10, aB false)] [8] [k_ 8, k_ 900] (cB [8] [900]) (qz 4 []) aN (by kernel_rfl) ?_
 refine W_ret ?_
 exact kr (cR [900] []) _ ((GApiValue.mk 0 0 0 0), 0, false, a0) (by kernel_rfl) (oinj h)
noncomputable def oper_Bin (a0 : GHeapHeap) (a1 : Int) (a2 : GApiValue) (a3 : GApiValue) : Option (GApiValue × Int × Bool × GHeapHeap) :=
  ((oper_ref a2).bind fun (r1_1 : Bool) => (if r1_1 = true then ((oper_ref a3).bind fun (r1_4 : Bool) => (if r1_4 = true then (if a2.Kind = a3.Kind then (if a2.N = a3.N then ((oper_same a1 true).bind fun (r2_18 : (GApiValue × Bool)) => (some (r2_18.1, 0, r2_18.2, a0))) else ((oper_same a1 (decide (a2.Kind = 5))).bind fun (r2_18 : (GApiValue × Bool)) => (some (r2_18.1, 0, r2_18.2, a0)))) else ((oper_same a1 false).bind fun (r2_18 : (GApiValue × Bool)) => (some (r2_18.1, 0, r2_18.2, a0)))) else oper_Bin_j1 a1 a2 a3 a0)) else oper_Bin_j1 a1 a2 a3 a0))
set_option maxRecDepth 100000 in
theorem oper_Bin_ok {a0 : GHeapHeap} {a1 : Int} {a2 : GApiValue} {a3 : GApiValue} {r_ : (GApiValue × Int × Bool × GHeapHeap)} (h : oper_Bin a0 a1 a2 a3 = some r_) : RI_oper_Bin a0 a1 a2 a3 r_ := by
 unfold oper_Bin at h
 refine fn_ioZ (enc := oper_Bin_e) (by kernel_rfl) (by kernel_rfl) fun Q' kr kn => ?_
 refine W_z mixed [(6, .ptr 6 0), (7, .ptr 7 0), (8, .ptr 8 0)] [0, 1] [(6, some (.box 23 [aI .u8 a2.Kind, aI .i64 a2.N, aI .i64 a2.Re, aI .i64 a2.Im])), (7, some (.box 23 [aI .u8 a3.Kind, aI .i64 a3.N, aI .i64 a3.Re, aI .i64 a3.Im])), (8, some (.box 23 [aI .u8 0, aI .i64 0, aI .i64 0, aI .i64 0])), k_ 900] (cB [6, 7, 8] [900]) (qz 5 []) aN (by kernel_rfl) ?_
 refine W_seq ?_
 obtain ⟨r1_1, hr1_1, h⟩ := bind_ok h
 have hr1_1 := oper_ref_ok hr1_1
 refine ib_c h (fun hx1 h => ?_) (fun hx1 h => ?_)
 obtain ⟨r1_4, hr1_4, h⟩ := bind_ok h
 have hr1_4 := oper_ref_ok hr1_4
 refine W_z mixed [(28, aB r1_4)] [0, 1, 6, 7, 8] [k_ 6, k_ 7, k_ 8, k_ 900] (cB [6, 7, 8] [900]) [q_, qn (.call [] (aB r1_1)), q_, qt0, qt (.call [] (aB r1_4)), qn (.dec true)] (aC hr1_1 (aC hx1 (aC hx1 (aC hr1_4 (aC hx1 aN))))) (by kernel_rfl) ?_
 refine W_cb h (by kernel_rfl) (fun hx2 h => ?_) (fun hx2 h => ?_)
 refine if_c h (fun hx3 h => ?_) (fun hx3 h => ?_)
 refine if_c h (fun hx4 h => ?_) (fun hx4 h => ?_)
 obtain ⟨r2_18, hr2_18, h⟩ := bind_ok h
 have hr2_18 := oper_same_ok hr2_18
 refine W_z mixed [(11, .ptr 11 0), (12, aB r2_18.2)] [8] [k_ 8, (11, some (.box 23 [aI .u8 r2_18.1.Kind, aI .i64 r2_18.1.N, aI .i64 r2_18.1.Re, aI .i64 r2_18.1.Im])), k_ 900] (cB [8, 11] [900]) (qz 7 (qt0 :: qt0 :: qt0 :: qt0 :: qt0 :: qt0 :: qt0 :: qt0 :: qt0 :: qt (.dec true) :: qn (.dec true) :: qn (.call [] (.tup [e_GApiValue r2_18.1, aB r2_18.2])) :: (qz 6 []))) (aC hx3 (aC hx3 (aC hx3 (aC hx3 (aC hx3 (aC hx3 (aC hx4 (aC hx4 (aC hx4 (aC hx3 (aC hx4 (aC hx3 (aC hr2_18 aN))))))))))))) (by kernel_rfl) ?_
 refine W_z mixed [(9, aI .u8 0), (10, aB r2_18.2)] [8] [(8, some (.box 23 [aI .u8 r2_18.1.Kind, aI .i64 r2_18.1.N, aI .i64 r2_18.1.Re, aI .i64 r2_18.1.Im])), k_ 900] (cB [8] [900]) (qz 5 []) aN (by kernel_rfl) ?_
 refine W_ret ?_
 exact kr (cR [900] []) _ (r2_18.1, 0, r2_18.2, a0) (by kernel_rfl) (oinj h)
 obtain ⟨r2_18, hr2_18, h⟩ := bind_ok h
 have hr2_18 := oper_same_ok hr2_18
 refine W_z mixed [(11, .ptr 11 0), (12, aB r2_18.2)] [8] [k_ 8, (11, some (.box 23 [aI .u8 r2_18.1.Kind, aI .i64 r2_18.1.N, aI .i64 r2_18.1.Re, aI .i64 r2_18.1.Im])), k_ 900] (cB [8, 11] [900]) (qz 7 (qt0 :: qt0 :: qt0 :: qt0 :: qt0 :: qt0 :: qf0 :: qf0 :: qf0 :: qt (.dec false) :: qn (.dec true) :: qn (.call [] (.tup [e_GApiValue r2_18.1, aB r2_18.2])) :: (qz 6 []))) (aC hx3 (aC hx3 (aC hx3 (aC hx3 (aC hx3 (aC hx3 (aC hx4 (aC hx4 (aC hx4 (aC hx3 (aC hx4 (aC hx3 (aC hr2_18 aN))))))))))))) (by kernel_rfl) ?_
 refine W_z mixed [(9, aI .u8 0), (10, aB r2_18.2)] [8] [(8, some (.box 23 [aI .u8 r2_18.1.Kind, aI .i64 r2_18.1.N, aI .i64 r2_18.1.Re, aI .i64 r2_18.1.Im])), k_ 900] (cB [8] [900]) (qz 5 []) aN (by kernel_rfl) ?_
 refine W_ret ?_
 exact kr (cR [900] []) _ (r2_18.1, 0, r2_18.2, a0) (by kernel_rfl) (oinj h)
 obtain ⟨r2_18, hr2_18, h⟩ := bind_ok h
 have hr2_18 := oper_same_ok hr2_18
 refine W_z mixed [(11, .ptr 11 0), (12, aB r2_18.2)] [8] [k_ 8, (11, some (.box 23 [aI .u8 r2_18.1.Kind, aI .i64 r2_18.1.N, aI .i64 r2_18.1.Re, aI .i64 r2_18.1.Im])), k_ 900] (cB [8, 11] [900]) (qz 7 (qf0 :: qf0 :: qf0 :: qf0 :: qf0 :: qf0 :: q_ :: q_ :: q_ :: qf0 :: qn (.dec false) :: qn (.call [] (.tup [e_GApiValue r2_18.1, aB r2_18.2])) :: (qz 6 []))) (aC hx3 (aC hx3 (aC hx3 (aC hx3 (aC hx3 (aC hx3 (aC hx3 (aC hx3 (aC hr2_18 aN))))))))) (by kernel_rfl) ?_
 refine W_z mixed [(9, aI .u8 0), (10, aB r2_18.2)] [8] [(8, some (.box 23 [aI .u8 r2_18.1.Kind, aI .i64 r2_18.1.N, aI .i64 r2_18.1.Re, aI .i64 r2_18.1.Im])), k_ 900] (cB [8] [900]) (qz 5 []) aN (by kernel_rfl) ?_
 refine W_ret ?_
 exact kr (cR [900] []) _ (r2_18.1, 0, r2_18.2, a0) (by kernel_rfl) (oinj h)
 refine W_skip ?_
 exact W_conv (cB [6, 7, 8] [900] [0, 1, 6, 7, 8]) (by kernel_rfl) (oper_Bin_j1_ok a1 a2 a3 a0 r_ _ kr h)
 refine W_z mixed [(28, aB false)] [0, 1, 6, 7, 8] [k_ 6, k_ 7, k_ 8, k_ 900] (cB [6, 7, 8] [900]) [q_, qn (.call [] (aB r1_1)), q_, qf0, qf0, qn (.dec false)] (aC hr1_1 (aC hx1 (aC hx1 (aC hx1 aN)))) (by kernel_rfl) ?_
 refine W_cf (e := false) rfl (by kernel_rfl) ?_
 refine W_skip ?_
 exact W_conv (cB [6, 7, 8] [900] [0, 1, 6, 7, 8]) (by kernel_rfl) (oper_Bin_j1_ok a1 a2 a3 a0 r_ _ kr h)
def R_oper_Feed_Draw_n (a0 : Unit) (a1 : Int) (r : (Int × Int)) : Prop := FnP Try.prog 15 [aPnil, aI .i64 a1] (.tup [aI .i64 r.1, aI .u8 r.2])
abbrev oper_Feed_Draw_n_e (x : (Int × Int)) : A := (.tup [aI .i64 x.1, aI .u8 x.2])
noncomputable def oper_Feed_Draw_n (a0 : Unit) (a1 : Int) : Option (Int × Int) :=
  (if a1 < 1 then (some (0, 1)) else (some (0, 6)))
set_option maxRecDepth 100000 in
theorem oper_Feed_Draw_n_ok {a0 : Unit} {a1 : Int} {r_ : (Int × Int)} (h : oper_Feed_Draw_n a0 a1 = some r_) : R_oper_Feed_Draw_n a0 a1 r_ := by
 unfold oper_Feed_Draw_n at h
 refine fn_pureZ (enc := oper_Feed_Draw_n_e) (by kernel_rfl) fun Q' kr kn => ?_
 refine W_z mixed [] [0, 1] [] c0 [q_, q_] aN (by kernel_rfl) ?_
 refine W_seq ?_
 refine W_block ?_
 refine W_z mixed [(7, aB (decide (a1 < 1)))] [0, 1] [] c0 [q_, q_, q_] aN (by kernel_rfl) ?_
 refine W_cd h (by kernel_rfl) (fun hx1 h => ?_) (fun hx1 h => ?_)
 refine W_z mixed [(4, aI .i64 0), (5, aI .u8 1)] [] [] c0 [q_, q_] aN (by kernel_rfl) ?_
 refine W_ret ?_
 exact kr [] _ _ (by kernel_rfl) (oinj h)
 refine W_z mixed [(10, aB true)] [0, 1] [] c0 (qz 15 []) aN (by kernel_rfl) ?_
 refine W_ct (e := true) rfl (by kernel_rfl) ?_
 refine W_z mixed [(4, aI .i64 0), (5, aI .u8 6)] [] [] c0 [q_, q_] aN (by kernel_rfl) ?_
 refine W_ret ?_
 exact kr [] _ _ (by kernel_rfl) (oinj h)
def R_hindcastlaw13_awake  (r : Bool) : Prop := FnP Try.prog 10 [] (aB r)
abbrev hindcastlaw13_awake_e (x : Bool) : A := (aB x)
noncomputable def hindcastlaw13_awake_j0 (r1_0 : ((Option GHeapHeap) × Int)) (r3_3 : (GApiValue × Int × Bool × GHeapHeap)) (v0_9_0 : Int) (v0_10_0 : Int) : Option Bool :=
  (if r1_0.2 = 0 then (if (decide (r3_3.1.Kind = 0) && (decide (r3_3.1.N = 0) && (decide (r3_3.1.Re = 0) && decide (r3_3.1.Im = 0)))) = true then (if r3_3.2.1 = 1 then (if r3_3.2.2.1 = true then (if v0_9_0 = 2 then (some (decide (v0_10_0 = 0))) else (some false)) else (some false)) else (some false)) else (some false)) else (some false))
def hindcastlaw13_awake_j0_s (r1_0 : ((Option GHeapHeap) × Int)) (r3_3 : (GApiValue × Int × Bool × GHeapHeap)) (v0_9_0 : Int) (v0_10_0 : Int) : LS := LS.mk 54 [(2, aI .i64 r1_0.2), (5, .ptr 5 0), (6, aI .u8 r3_3.2.1), (7, aB r3_3.2.2.1), (9, aI .i64 v0_9_0), (10, aI .u8 v0_10_0)] [(5, some (.box 23 [aI .u8 r3_3.1.Kind, aI .i64 r3_3.1.N, aI .i64 r3_3.1.Re, aI .i64 r3_3.1.Im]))]
set_option maxRecDepth 100000 in
theorem hindcastlaw13_awake_j0_ok (r1_0 : ((Option GHeapHeap) × Int)) (r3_3 : (GApiValue × Int × Bool × GHeapHeap)) (v0_9_0 : Int) (v0_10_0 : Int) (r_ : Bool) (Q' : Exit → St → Prop) (kr : KR Try.prog 10 hindcastlaw13_awake_e r_ .ret Q')  (h : hindcastlaw13_awake_j0 r1_0 r3_3 v0_9_0 v0_10_0 = some r_) : W Try.prog (subC (bodyC Try.prog 10) [1, 1, 1, 1, 1, 1]) (hindcastlaw13_awake_j0_s r1_0 r3_3 v0_9_0 v0_10_0).st Q' := by
 unfold hindcastlaw13_awake_j0 at h
 refine if_c h (fun hx1001 h => ?_) (fun hx1001 h => ?_)
 refine ib_c h (fun hx1002 h => ?_) (fun hx1002 h => ?_)
 refine if_c h (fun hx1003 h => ?_) (fun hx1003 h => ?_)
 refine ib_c h (fun hx1004 h => ?_) (fun hx1004 h => ?_)
 refine if_c h (fun hx1005 h => ?_) (fun hx1005 h => ?_)
 refine W_z mixed [(0, aB (decide (v0_10_0 = 0)))] [] [] c0 [q_, q_, q_, qt0, qt0, qt (.quiet (aB (decide (r3_3.1.Kind = 0) && (decide (r3_3.1.N = 0) && (decide (r3_3.1.Re = 0) && decide (r3_3.1.Im = 0)))))), qn (.dec true), q_, qt0, qt0, qn (.dec true), q_, qt0, qn (.dec true), q_, qt0, qt0, qn (.dec true), q_, qt0, qt0, qn (.dec true), q_] (aC hx1001 (aC hx1001 (aC hx1001 (aC (show Quiet Try.prog (opAt (subC (bodyC Try.prog 10) [1, 1, 1, 1, 1, 1, 0]) 5) [e_GApiValue r3_3.1, .agg [aI .u8 0, aI .i64 0, aI .i64 0, aI .i64 0]] (aB (decide (r3_3.1.Kind = 0) && (decide (r3_3.1.N = 0) && (decide (r3_3.1.Re = 0) && decide (r3_3.1.Im = 0))))) from eqA_ob (P := Try.prog) (ne := false) (xs := [.int .u8 r3_3.1.Kind, .int .i64 r3_3.1.N, .int .i64 r3_3.1.Re, .int .i64 r3_3.1.Im]) (ys := [.int .u8 0, .int .i64 0, .int .i64 0, .int .i64 0]) (hh := none) ⟨_, by rfl⟩ (by kernel_rfl) (by kernel_rfl)) (aC hx1001 (aC hx1002 (aC hx1002 (aC hx1002 (aC hx1003 (aC hx1003 (aC hx1004 (aC hx1004 (aC hx1004 (aC hx1005 (aC hx1005 (aC hx1005 aN)))))))))))))))) (by kernel_rfl) ?_
 refine W_ret ?_
 exact kr [] _ _ (by kernel_rfl) (oinj h)
 refine W_z mixed [(0, aB false)] [] [] c0 [q_, q_, q_, qt0, qt0, qt (.quiet (aB (decide (r3_3.1.Kind = 0) && (decide (r3_3.1.N = 0) && (decide (r3_3.1.Re = 0) && decide (r3_3.1.Im = 0)))))), qn (.dec true), q_, qt0, qt0, qn (.dec true), q_, qt0, qn (.dec true), q_, qt0, qt0, qn (.dec true), q_, qf0, qf0, qn (.dec false), q_] (aC hx1001 (aC hx1001 (aC hx1001 (aC (show Quiet Try.prog (opAt (subC (bodyC Try.prog 10) [1, 1, 1, 1, 1, 1, 0]) 5) [e_GApiValue r3_3.1, .agg [aI .u8 0, aI .i64 0, aI .i64 0, aI .i64 0]] (aB (decide (r3_3.1.Kind = 0) && (decide (r3_3.1.N = 0) && (decide (r3_3.1.Re = 0) && decide (r3_3.1.Im = 0))))) from eqA_ob (P := Try.prog) (ne := false) (xs := [.int .u8 r3_3.1.Kind, .int .i64 r3_3.1.N, .int .i64 r3_3.1.Re, .int .i64 r3_3.1.Im]) (ys := [.int .u8 0, .int .i64 0, .int .i64 0, .int .i64 0]) (hh := none) ⟨_, by rfl⟩ (by kernel_rfl) (by kernel_rfl)) (aC hx1001 (aC hx1002 (aC hx1002 (aC hx1002 (aC hx1003 (aC hx1003 (aC hx1004 (aC hx1004 (aC hx1004 (aC hx1005 (aC hx1005 (aC hx1005 aN)))))))))))))))) (by kernel_rfl) ?_
 refine W_ret ?_
 exact kr [] _ _ (by kernel_rfl) (oinj h)
 refine W_z mixed [(0, aB false)] [] [] c0 [q_, q_, q_, qt0, qt0, qt (.quiet (aB (decide (r3_3.1.Kind = 0) && (decide (r3_3.1.N = 0) && (decide (r3_3.1.Re = 0) && decide (r3_3.1.Im = 0)))))), qn (.dec true), q_, qt0, qt0, qn (.dec true), q_, qt0, qn (.dec true), q_, qf0, qf0, qn (.dec false), q_, q_, q_, q_, q_] (aC hx1001 (aC hx1001 (aC hx1001 (aC (show Quiet Try.prog (opAt (subC (bodyC Try.prog 10) [1, 1, 1, 1, 1, 1, 0]) 5) [e_GApiValue r3_3.1, .agg [aI .u8 0, aI .i64 0, aI .i64 0, aI .i64 0]] (aB (decide (r3_3.1.Kind = 0) && (decide (r3_3.1.N = 0) && (decide (r3_3.1.Re = 0) && decide (r3_3.1.Im = 0))))) from eqA_ob (P := Try.prog) (ne := false) (xs := [.int .u8 r3_3.1.Kind, .int .i64 r3_3.1.N, .int .i64 r3_3.1.Re, .int .i64 r3_3.1.Im]) (ys := [.int .u8 0, .int .i64 0, .int .i64 0, .int .i64 0]) (hh := none) ⟨_, by rfl⟩ (by kernel_rfl) (by kernel_rfl)) (aC hx1001 (aC hx1002 (aC hx1002 (aC hx1002 (aC hx1003 (aC hx1003 (aC hx1004 (aC hx1004 (aC hx1004 aN))))))))))))) (by kernel_rfl) ?_
 refine W_ret ?_
 exact kr [] _ _ (by kernel_rfl) (oinj h)
 refine W_z mixed [(0, aB false)] [] [] c0 (q_ :: q_ :: q_ :: qt0 :: qt0 :: qt (.quiet (aB (decide (r3_3.1.Kind = 0) && (decide (r3_3.1.N = 0) && (decide (r3_3.1.Re = 0) && decide (r3_3.1.Im = 0)))))) :: qn (.dec true) :: q_ :: qt0 :: qt0 :: qn (.dec true) :: q_ :: qf0 :: qn (.dec false) :: (qz 9 [])) (aC hx1001 (aC hx1001 (aC hx1001 (aC (show Quiet Try.prog (opAt (subC (bodyC Try.prog 10) [1, 1, 1, 1, 1, 1, 0]) 5) [e_GApiValue r3_3.1, .agg [aI .u8 0, aI .i64 0, aI .i64 0, aI .i64 0]] (aB (decide (r3_3.1.Kind = 0) && (decide (r3_3.1.N = 0) && (decide (r3_3.1.Re = 0) && decide (r3_3.1.Im = 0))))) from eqA_ob (P := Try.prog) (ne := false) (xs := [.int .u8 r3_3.1.Kind, .int .i64 r3_3.1.N, .int .i64 r3_3.1.Re, .int .i64 r3_3.1.Im]) (ys := [.int .u8 0, .int .i64 0, .int .i64 0, .int .i64 0]) (hh := none) ⟨_, by rfl⟩ (by kernel_rfl) (by kernel_rfl)) (aC hx1001 (aC hx1002 (aC hx1002 (aC hx1002 (aC hx1003 (aC hx1003 aN)))))))))) (by kernel_rfl) ?_
 refine W_ret ?_
 exact kr [] _ _ (by kernel_rfl) (oinj h)
 refine W_z mixed [(0, aB false)] [] [] c0 (q_ :: q_ :: q_ :: qt0 :: qt0 :: qt (.quiet (aB (decide (r3_3.1.Kind = 0) && (decide (r3_3.1.N = 0) && (decide (r3_3.1.Re = 0) && decide (r3_3.1.Im = 0)))))) :: qn (.dec true) :: q_ :: qf0 :: qf0 :: qn (.dec false) :: (qz 12 [])) (aC hx1001 (aC hx1001 (aC hx1001 (aC (show Quiet Try.prog (opAt (subC (bodyC Try.prog 10) [1, 1, 1, 1, 1, 1, 0]) 5) [e_GApiValue r3_3.1, .agg [aI .u8 0, aI .i64 0, aI .i64 0, aI .i64 0]] (aB (decide (r3_3.1.Kind = 0) && (decide (r3_3.1.N = 0) && (decide (r3_3.1.Re = 0) && decide (r3_3.1.Im = 0))))) from eqA_ob (P := Try.prog) (ne := false) (xs := [.int .u8 r3_3.1.Kind, .int .i64 r3_3.1.N, .int .i64 r3_3.1.Re, .int .i64 r3_3.1.Im]) (ys := [.int .u8 0, .int .i64 0, .int .i64 0, .int .i64 0]) (hh := none) ⟨_, by rfl⟩ (by kernel_rfl) (by kernel_rfl)) (aC hx1001 (aC hx1002 (aC hx1002 (aC hx1002 aN)))))))) (by kernel_rfl) ?_
 refine W_ret ?_
 exact kr [] _ _ (by kernel_rfl) (oinj h)
 refine W_z mixed [(0, aB false)] [] [] c0 (q_ :: q_ :: q_ :: qf0 :: qf0 :: qf0 :: qn (.dec false) :: (qz 16 [])) (aC hx1001 (aC hx1001 (aC hx1001 (aC hx1001 aN)))) (by kernel_rfl) ?_
 refine W_ret ?_
 exact kr [] _ _ (by kernel_rfl) (oinj h)
noncomputable def hindcastlaw13_awake  : Option Bool :=
  ((xheap_New 5).bind fun (r1_0 : ((Option GHeapHeap) × Int)) => optCase r1_0.1 none fun (y1_0 : GHeapHeap) => ((oper_Bin y1_0 4 (GApiValue.mk 1 1 0 0) (GApiValue.mk 1 0 0 0)).bind fun (r3_3 : (GApiValue × Int × Bool × GHeapHeap)) => ((oper_New ([] : List Int) ([(-1)] : List Int) 0 0).bind fun (r4_1 : (Option GOperFeed)) => optCase r4_1 ((oper_Feed_Draw_n () 3).bind fun (rn5_1 : (Int × Int)) => hindcastlaw13_awake_j0 r1_0 r3_3 rn5_1.1 rn5_1.2) fun (y4_1 : GOperFeed) => ((oper_Feed_Draw y4_1 3).bind fun (r5_1 : (Int × Int × GOperFeed)) => hindcastlaw13_awake_j0 r1_0 r3_3 r5_1.1 r5_1.2.1))))
set_option maxRecDepth 100000 in
theorem hindcastlaw13_awake_ok  {r_ : Bool} (h : hindcastlaw13_awake  = some r_) : R_hindcastlaw13_awake  r_ := by
 unfold hindcastlaw13_awake at h
 refine fn_pureZ (enc := hindcastlaw13_awake_e) (by kernel_rfl) fun Q' kr kn => ?_
 refine W_z mixed [] [] [] c0 [q_] aN (by kernel_rfl) ?_
 obtain ⟨r1_0, hr1_0, h⟩ := bind_ok h
 have hr1_0 := xheap_New_ok hr1_0
 unfold RI_heap_New at hr1_0
 rcases hc_y1_0 : r1_0.1 with _ | y1_0
 rw [hc_y1_0] at hr1_0
 have h := oc_nx hc_y1_0 h
 refine W_z mixed [(1, aPnil), (2, aI .i64 r1_0.2)] [] [] c0 [qn (.io ⟨[], [], [], [], [], [], []⟩ (.tup [aPnil, aI .i64 r1_0.2]) []), q_, q_, q_, q_, q_] (aC hr1_0 aN) (by kernel_rfl) ?_
 refine W_z mixed [(3, .ptr 3 0), (4, .ptr 4 0)] [1, 2] [(3, some (.box 23 [aI .u8 1, aI .i64 1, aI .i64 0, aI .i64 0])), (4, some (.box 23 [aI .u8 1, aI .i64 0, aI .i64 0, aI .i64 0]))] (cB [3, 4] []) (qz 6 []) aN (by kernel_rfl) ?_
 cases h
 rw [hc_y1_0] at hr1_0
 have h := oc_sx hc_y1_0 h
 refine W_z mixed [(1, .ob 1001), (2, aI .i64 r1_0.2)] [] [(1001, some (.obj (.any (rep_GHeapHeap y1_0))))] (cG [] [] [] [(12, 1001)] [] []) [qn (.io ⟨[], [], [], [], [], [], [(700000, 12)]⟩ (.tup [.ob 700000, aI .i64 r1_0.2]) [(700000, .obj (.any (rep_GHeapHeap y1_0)))]), q_, q_, q_, q_, q_] (aC hr1_0 aN) (by kernel_rfl) ?_
 refine W_z mixed [(3, .ptr 3 0), (4, .ptr 4 0)] [1, 2] [(3, some (.box 23 [aI .u8 1, aI .i64 1, aI .i64 0, aI .i64 0])), (4, some (.box 23 [aI .u8 1, aI .i64 0, aI .i64 0, aI .i64 0])), k_ 1001] (cB [3, 4] [1001]) (qz 6 []) aN (by kernel_rfl) ?_
 obtain ⟨r3_3, hr3_3, h⟩ := bind_ok h
 have hr3_3 := oper_Bin_ok hr3_3
 refine W_z mixed [(5, .ptr 5 0), (6, aI .u8 r3_3.2.1), (7, aB r3_3.2.2.1)] [2] [(5, some (.box 23 [aI .u8 r3_3.1.Kind, aI .i64 r3_3.1.N, aI .i64 r3_3.1.Re, aI .i64 r3_3.1.Im]))] (cB [5] []) (q_ :: q_ :: q_ :: qn (.io ⟨[], [(1001, 900)], [], [], [], [], [(900, 1001)]⟩ (.tup [e_GApiValue r3_3.1, aI .u8 r3_3.2.1, aB r3_3.2.2.1]) [(900, .obj (.any (rep_GHeapHeap r3_3.2.2.2)))]) :: (qz 8 [])) (aC hr3_3 aN) (by kernel_rfl) ?_
 obtain ⟨r4_1, hr4_1, h⟩ := bind_ok h
 have hr4_1 := oper_New_ok hr4_1
 unfold RI_oper_New at hr4_1
 rcases hc_y4_1 : r4_1 with _ | y4_1
 rw [hc_y4_1] at hr4_1
 have h := oc_nx hc_y4_1 h
 refine W_z mixed [(8, aPnil)] [2, 5, 6, 7] [k_ 5] (cB [5] []) [q_, (none, [25, 25], .io ⟨[], [], [], [], [(0, 0, .sl 1)], [], []⟩ (aPnil) []), q_] (aC hr4_1 aN) (by kernel_rfl) ?_
 obtain ⟨rn5_1, hrn5_1, h⟩ := bind_ok h
 have hrn5_1 := oper_Feed_Draw_n_ok hrn5_1
 refine W_z mixed [(9, aI .i64 rn5_1.1), (10, aI .u8 rn5_1.2)] [2, 5, 6, 7] [k_ 5] (cB [5] []) [q_, qn (.call [] (.tup [aI .i64 rn5_1.1, aI .u8 rn5_1.2])), q_, q_, q_, q_, q_] (aC hrn5_1 aN) (by kernel_rfl) ?_
 exact W_conv (cB [5] [] [2, 5, 6, 7, 9, 10]) (by kernel_rfl) (hindcastlaw13_awake_j0_ok r1_0 r3_3 rn5_1.1 rn5_1.2 r_ _ kr h)
 rw [hc_y4_1] at hr4_1
 have h := oc_sx hc_y4_1 h
 refine W_z mixed [(8, .ptr 26 0)] [2, 5, 6, 7] [k_ 5, (26, some (.box 80 [.t (.sl 1 (y4_1.in_.map c_i64)), .t (.sl 1 (y4_1.draws_.map c_i64)), aI .i64 y4_1.read_, aI .i64 y4_1.drawn_]))] (cB [5, 26] []) [q_, (none, [25], .io ⟨[], [], [], [], [(0, 0, .sl 1)], [], [(24, 26)]⟩ (.ptr 24 0) [(24, .box 80 [.t (.sl 1 (y4_1.in_.map c_i64)), .t (.sl 1 (y4_1.draws_.map c_i64)), aI .i64 y4_1.read_, aI .i64 y4_1.drawn_])]), q_] (aC hr4_1 aN) (by kernel_rfl) ?_
 obtain ⟨r5_1, hr5_1, h⟩ := bind_ok h
 have hr5_1 := oper_Feed_Draw_ok hr5_1
 refine W_z mixed [(9, aI .i64 r5_1.1), (10, aI .u8 r5_1.2.1)] [2, 5, 6, 7] [k_ 5] (cB [5] []) [q_, qn (.io ⟨[(26, 900)], [], [], [], [], [], [(900, 26)]⟩ (.tup [aI .i64 r5_1.1, aI .u8 r5_1.2.1]) [(900, .box 80 [.t (.sl 1 (r5_1.2.2.in_.map c_i64)), .t (.sl 1 (r5_1.2.2.draws_.map c_i64)), aI .i64 r5_1.2.2.read_, aI .i64 r5_1.2.2.drawn_])]), q_, q_, q_, q_, q_] (aC hr5_1 aN) (by kernel_rfl) ?_
 exact W_conv (cB [5] [] [2, 5, 6, 7, 9, 10]) (by kernel_rfl) (hindcastlaw13_awake_j0_ok r1_0 r3_3 r5_1.1 r5_1.2.1 r_ _ kr h)
def R_oper_Feed_Read_n (a0 : Unit) (r : (Int × Bool)) : Prop := FnP Try.prog 14 [aPnil] (.tup [aI .i64 r.1, aB r.2])
abbrev oper_Feed_Read_n_e (x : (Int × Bool)) : A := (.tup [aI .i64 x.1, aB x.2])
noncomputable def oper_Feed_Read_n (a0 : Unit) : Option (Int × Bool) :=
  (some (0, false))
set_option maxRecDepth 100000 in
theorem oper_Feed_Read_n_ok {a0 : Unit} {r_ : (Int × Bool)} (h : oper_Feed_Read_n a0 = some r_) : R_oper_Feed_Read_n a0 r_ := by
 unfold oper_Feed_Read_n at h
 refine fn_pureZ (enc := oper_Feed_Read_n_e) (by kernel_rfl) fun Q' kr kn => ?_
 refine W_z mixed [] [0] [] c0 [q_, q_] aN (by kernel_rfl) ?_
 refine W_seq ?_
 refine W_z mixed [(17, aB true)] [0] [] c0 (qz 14 []) aN (by kernel_rfl) ?_
 refine W_ct (e := true) rfl (by kernel_rfl) ?_
 refine W_z mixed [(2, aI .i64 0), (3, aB false)] [] [] c0 [q_, q_] aN (by kernel_rfl) ?_
 refine W_ret ?_
 exact kr [] _ _ (by kernel_rfl) (oinj h)
end Go.Proofs.Ytmffhifkdbfbfaa
