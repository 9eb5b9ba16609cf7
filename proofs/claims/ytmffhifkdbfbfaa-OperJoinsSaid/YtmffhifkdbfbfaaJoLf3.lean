/- Parts of the proof. -/
import Derived.Test.YtmffhifkdbfbfaaJoLf2
namespace Go.Proofs.Ytmffhifkdbfbfaa
open Go.RowKit
set_option linter.unusedVariables false
set_option maxHeartbeats 4000000
inductive hindcastref11_SameValues_C where
  | l0 (a0 : (List GApiValue)) (a1 : (List GApiValue)) (v0_13_0 : Int)
  | j1
inductive hindcastref11_Same_C where
  | l0 (a0 : (List GApiObj)) (a1 : (List GApiObj)) (v0_13_0 : Int)
  | j1
def RI_oper_kinds (a0 : Int) (r : ((List Int) × Bool)) : Prop := FnIO Try.prog 60 [aI .i64 a0] [] (.tup [.ref 800000, aB r.2]) [(800000, .row 5 1 (r.1.map c_u8))]
abbrev oper_kinds_e (x : ((List Int) × Bool)) : A × List (Nat × Blk) := ((.tup [.ref 800000, aB x.2]), [(800000, .row 5 1 (x.1.map c_u8))])
noncomputable def oper_kinds_j0  : Option ((List Int) × Bool) :=
  (some (([0] : List Int), true))
noncomputable def oper_kinds_j1  : Option ((List Int) × Bool) :=
  (some (([4] : List Int), true))
noncomputable def oper_kinds_j2  : Option ((List Int) × Bool) :=
  (some (([1] : List Int), true))
def oper_kinds_j0_s  : LS := LS.mk 22 [] []
def oper_kinds_j1_s  : LS := LS.mk 22 [] []
def oper_kinds_j2_s  : LS := LS.mk 22 [] []
set_option maxRecDepth 100000 in
theorem oper_kinds_j0_ok  (r_ : ((List Int) × Bool)) (Q' : Exit → St → Prop) (kr : KRI Try.prog 60 oper_kinds_e r_ .ret Q')  (h : oper_kinds_j0  = some r_) : W Try.prog (subC (bodyC Try.prog 60) [1, 0, 1, 0, 1, 0]) (oper_kinds_j0_s ).st Q' := by
 unfold oper_kinds_j0 at h
 refine W_z mixed [(2, .ref 1002), (3, aB true)] [] [(1002, some (.row 5 1 (([0] : List Int).map c_u8)))] (cG [] [] [] [(8, 1002)] [] []) [q_, q_, q_] aN (by kernel_rfl) ?_
 refine W_ret ?_
 exact kr (cG [] [] [] [(1002, 800000)] [] [] []) _ (([0] : List Int), true) (by kernel_rfl) (oinj h)
set_option maxRecDepth 100000 in
theorem oper_kinds_j1_ok  (r_ : ((List Int) × Bool)) (Q' : Exit → St → Prop) (kr : KRI Try.prog 60 oper_kinds_e r_ .ret Q')  (h : oper_kinds_j1  = some r_) : W Try.prog (subC (bodyC Try.prog 60) [1, 0, 1, 0, 1, 1, 1, 0]) (oper_kinds_j1_s ).st Q' := by
 unfold oper_kinds_j1 at h
 refine W_z mixed [(2, .ref 1002), (3, aB true)] [] [(1002, some (.row 5 1 (([4] : List Int).map c_u8)))] (cG [] [] [] [(12, 1002)] [] []) [q_, q_, q_] aN (by kernel_rfl) ?_
 refine W_ret ?_
 exact kr (cG [] [] [] [(1002, 800000)] [] [] []) _ (([4] : List Int), true) (by kernel_rfl) (oinj h)
set_option maxRecDepth 100000 in
theorem oper_kinds_j2_ok  (r_ : ((List Int) × Bool)) (Q' : Exit → St → Prop) (kr : KRI Try.prog 60 oper_kinds_e r_ .ret Q')  (h : oper_kinds_j2  = some r_) : W Try.prog (subC (bodyC Try.prog 60) [1, 0, 1, 0, 1, 1, 1, 1, 1, 1, 1, 0]) (oper_kinds_j2_s ).st Q' := by
 unfold oper_kinds_j2 at h
 refine W_z mixed [(2, .ref 1002), (3, aB true)] [] [(1002, some (.row 5 1 (([1] : List Int).map c_u8)))] (cG [] [] [] [(19, 1002)] [] []) [q_, q_, q_] aN (by kernel_rfl) ?_
 refine W_ret ?_
 exact kr (cG [] [] [] [(1002, 800000)] [] [] []) _ (([1] : List Int), true) (by kernel_rfl) (oinj h)
noncomputable def oper_kinds (a0 : Int) : Option ((List Int) × Bool) :=
  (if a0 = 1 then oper_kinds_j0 else (if a0 = 2 then oper_kinds_j0 else (if a0 = 3 then oper_kinds_j1 else (if a0 = 4 then oper_kinds_j1 else (if a0 = 5 then (some (([1, 1] : List Int), true)) else (if a0 = 6 then oper_kinds_j2 else (if a0 = 8 then oper_kinds_j2 else (if a0 = 7 then (some (([] : List Int), true)) else (some (([] : List Int), false))))))))))
set_option maxRecDepth 100000 in
theorem oper_kinds_ok {a0 : Int} {r_ : ((List Int) × Bool)} (h : oper_kinds a0 = some r_) : RI_oper_kinds a0 r_ := by
 unfold oper_kinds at h
 refine fn_ioZ (enc := oper_kinds_e) (by kernel_rfl) (by kernel_rfl) fun Q' kr kn => ?_
 refine W_z mixed [] [0] [] c0 [q_, q_] aN (by kernel_rfl) ?_
 refine W_seq ?_
 refine W_z mixed [(4, aI .i64 a0)] [] [] c0 [q_] aN (by kernel_rfl) ?_
 refine W_block ?_
 refine W_seq ?_
 refine W_z mixed [(5, aB (decide (a0 = 1)))] [4] [] c0 [q_, q_] aN (by kernel_rfl) ?_
 refine W_cd h (by kernel_rfl) (fun hx1 h => ?_) (fun hx1 h => ?_)
 refine W_skip ?_
 refine W_ct (e := (decide (a0 = 1))) hx1 (by kernel_rfl) ?_
 exact W_conv (c0 []) (by kernel_rfl) (oper_kinds_j0_ok r_ _ kr h)
 refine W_zl mixed [(5, aB (decide (a0 = 2)))] [4] [] c0 [q_, q_] aN (by kernel_rfl) ?_
 refine W_cd h (by kernel_rfl) (fun hx2 h => ?_) (fun hx2 h => ?_)
 exact W_conv (c0 []) (by kernel_rfl) (oper_kinds_j0_ok r_ _ kr h)
 refine W_seq ?_
 refine W_z mixed [(9, aB (decide (a0 = 3)))] [4] [] c0 [q_, q_] aN (by kernel_rfl) ?_
 refine W_cd h (by kernel_rfl) (fun hx3 h => ?_) (fun hx3 h => ?_)
 refine W_skip ?_
 refine W_ct (e := (decide (a0 = 3))) hx3 (by kernel_rfl) ?_
 exact W_conv (c0 []) (by kernel_rfl) (oper_kinds_j1_ok r_ _ kr h)
 refine W_zl mixed [(9, aB (decide (a0 = 4)))] [4] [] c0 [q_, q_] aN (by kernel_rfl) ?_
 refine W_cd h (by kernel_rfl) (fun hx4 h => ?_) (fun hx4 h => ?_)
 exact W_conv (c0 []) (by kernel_rfl) (oper_kinds_j1_ok r_ _ kr h)
 refine W_z mixed [(13, aB (decide (a0 = 5)))] [4] [] c0 [q_, q_] aN (by kernel_rfl) ?_
 refine W_cd h (by kernel_rfl) (fun hx5 h => ?_) (fun hx5 h => ?_)
 refine W_z mixed [(2, .ref 1002), (3, aB true)] [] [(1002, some (.row 5 1 (([1, 1] : List Int).map c_u8)))] (cG [] [] [] [(15, 1002)] [] []) [q_, q_, q_] aN (by kernel_rfl) ?_
 refine W_ret ?_
 exact kr (cG [] [] [] [(1002, 800000)] [] [] []) _ (([1, 1] : List Int), true) (by kernel_rfl) (oinj h)
 refine W_seq ?_
 refine W_z mixed [(16, aB (decide (a0 = 6)))] [4] [] c0 [q_, q_] aN (by kernel_rfl) ?_
 refine W_cd h (by kernel_rfl) (fun hx6 h => ?_) (fun hx6 h => ?_)
 refine W_skip ?_
 refine W_ct (e := (decide (a0 = 6))) hx6 (by kernel_rfl) ?_
 exact W_conv (c0 []) (by kernel_rfl) (oper_kinds_j2_ok r_ _ kr h)
 refine W_zl mixed [(16, aB (decide (a0 = 8)))] [4] [] c0 [q_, q_] aN (by kernel_rfl) ?_
 refine W_cd h (by kernel_rfl) (fun hx7 h => ?_) (fun hx7 h => ?_)
 exact W_conv (c0 []) (by kernel_rfl) (oper_kinds_j2_ok r_ _ kr h)
 refine W_z mixed [(20, aB (decide (a0 = 7)))] [] [] c0 [q_, q_] aN (by kernel_rfl) ?_
 refine W_cd h (by kernel_rfl) (fun hx8 h => ?_) (fun hx8 h => ?_)
 refine W_z mixed [(2, aNil), (3, aB true)] [] [] c0 [q_, q_] aN (by kernel_rfl) ?_
 refine W_ret ?_
 exact kr (cG [(0, 0, .row 800000)] [] [] [] [] [(800000, 5, 1)] []) _ (([] : List Int), true) (by kernel_rfl) (oinj h)
 refine W_skip ?_
 refine W_z mixed [(2, aNil), (3, aB false)] [] [] c0 [q_, q_] aN (by kernel_rfl) ?_
 refine W_ret ?_
 exact kr (cG [(0, 0, .row 800000)] [] [] [] [] [(800000, 5, 1)] []) _ (([] : List Int), false) (by kernel_rfl) (oinj h)
def RI_oper_length (a0 : GHeapHeap) (a1 : GApiValue) (r : (GApiValue × Int × Bool)) : Prop := FnIO Try.prog 61 [.ob 900, e_GApiValue a1] [(900, .obj (.any (rep_GHeapHeap a0)))] (.tup [e_GApiValue r.1, aI .u8 r.2.1, aB r.2.2]) [(900, .obj (.any (rep_GHeapHeap a0)))]
abbrev oper_length_e (a0 : GHeapHeap) (x : (GApiValue × Int × Bool)) : A × List (Nat × Blk) := ((.tup [e_GApiValue x.1, aI .u8 x.2.1, aB x.2.2]), [(900, .obj (.any (rep_GHeapHeap a0)))])
noncomputable def oper_length_j0 (a1 : GApiValue) (a0 : GHeapHeap) : Option (GApiValue × Int × Bool) :=
  ((xheap_Heap_Size a0 a1).bind fun (r6_2 : (Int × Int)) => (if r6_2.2 = 0 then ((oper_integer r6_2.1).bind fun (r9_1 : GApiValue) => (some (r9_1, 0, true))) else (some ((GApiValue.mk 0 0 0 0), r6_2.2, true))))
def oper_length_j0_s (a1 : GApiValue) (a0 : GHeapHeap) : LS := LS.mk 30 [(0, .ob 900), (3, .ptr 3 0), (4, .ptr 4 0)] [(3, some (.box 23 [aI .u8 a1.Kind, aI .i64 a1.N, aI .i64 a1.Re, aI .i64 a1.Im])), (4, some (.box 23 [aI .u8 0, aI .i64 0, aI .i64 0, aI .i64 0])), (900, some (.obj (.any (rep_GHeapHeap a0))))]
set_option maxRecDepth 100000 in
theorem oper_length_j0_ok (a1 : GApiValue) (a0 : GHeapHeap) (r_ : (GApiValue × Int × Bool)) (Q' : Exit → St → Prop) (kr : KRI Try.prog 61 (oper_length_e a0) r_ .ret Q')  (h : oper_length_j0 a1 a0 = some r_) : W Try.prog (subC (bodyC Try.prog 61) [1, 0, 1, 0, 1, 1, 1, 0]) (oper_length_j0_s a1 a0).st Q' := by
 unfold oper_length_j0 at h
 obtain ⟨r6_2, hr6_2, h⟩ := bind_ok h
 have hr6_2 := xheap_Heap_Size_ok hr6_2
 refine W_z mixed [(7, aI .i64 r6_2.1), (8, aI .u8 r6_2.2)] [4] [k_ 4, k_ 900] (cB [4] [900]) [q_, q_, qn (.io ⟨[], [(900, 900)], [], [], [], [], [(900, 900)]⟩ (.tup [aI .i64 r6_2.1, aI .u8 r6_2.2]) [(900, .obj (.any (rep_GHeapHeap a0)))]), q_, q_, q_, q_, q_] (aC hr6_2 aN) (by kernel_rfl) ?_
 refine W_seq ?_
 refine W_z mixed [(24, aB (!(decide (r6_2.2 = 0))))] [4, 7, 8] [k_ 4, k_ 900] (cB [4] [900]) [q_, q_] aN (by kernel_rfl) ?_
 refine W_cdn h (by kernel_rfl) (fun hx1001 h => ?_) (fun hx1001 h => ?_)
 refine W_skip ?_
 obtain ⟨r9_1, hr9_1, h⟩ := bind_ok h
 have hr9_1 := oper_integer_ok hr9_1
 refine W_z mixed [(5, aI .u8 0), (6, aB true)] [4] [(4, some (.box 23 [aI .u8 r9_1.Kind, aI .i64 r9_1.N, aI .i64 r9_1.Re, aI .i64 r9_1.Im])), k_ 900] (cB [4] [900]) [q_, qn (.call [] (e_GApiValue r9_1)), q_, q_, q_] (aC hr9_1 aN) (by kernel_rfl) ?_
 refine W_ret ?_
 exact kr (cR [900] []) _ (r9_1, 0, true) (by kernel_rfl) (oinj h)
 refine W_z mixed [(5, aI .u8 r6_2.2), (6, aB true)] [4] [k_ 4, k_ 900] (cB [4] [900]) (qz 5 []) aN (by kernel_rfl) ?_
 refine W_ret ?_
 exact kr (cR [900] []) _ ((GApiValue.mk 0 0 0 0), r6_2.2, true) (by kernel_rfl) (oinj h)
noncomputable def oper_length (a0 : GHeapHeap) (a1 : GApiValue) : Option (GApiValue × Int × Bool) :=
  (if a1.Kind = 5 then (some ((GApiValue.mk 0 0 0 0), 3, true)) else (if a1.Kind = 3 then oper_length_j0 a1 a0 else (if a1.Kind = 7 then oper_length_j0 a1 a0 else (some ((GApiValue.mk 0 0 0 0), 0, false)))))
set_option maxRecDepth 100000 in
theorem oper_length_ok {a0 : GHeapHeap} {a1 : GApiValue} {r_ : (GApiValue × Int × Bool)} (h : oper_length a0 a1 = some r_) : RI_oper_length a0 a1 r_ := by
 unfold oper_length at h
 refine fn_ioZ (enc := (oper_length_e a0)) (by kernel_rfl) (by kernel_rfl) fun Q' kr kn => ?_
 refine W_z mixed [(3, .ptr 3 0), (4, .ptr 4 0)] [0] [(3, some (.box 23 [aI .u8 a1.Kind, aI .i64 a1.N, aI .i64 a1.Re, aI .i64 a1.Im])), (4, some (.box 23 [aI .u8 0, aI .i64 0, aI .i64 0, aI .i64 0])), k_ 900] (cB [3, 4] [900]) (qz 4 []) aN (by kernel_rfl) ?_
 refine W_seq ?_
 refine W_z mixed [(10, aI .u8 a1.Kind)] [0, 3, 4] [k_ 3, k_ 4, k_ 900] (cB [3, 4] [900]) [q_, q_] aN (by kernel_rfl) ?_
 refine W_block ?_
 refine W_z mixed [(11, aB (decide (a1.Kind = 5)))] [0, 3, 4, 10] [k_ 3, k_ 4, k_ 900] (cB [3, 4] [900]) [q_, q_] aN (by kernel_rfl) ?_
 refine W_cd h (by kernel_rfl) (fun hx1 h => ?_) (fun hx1 h => ?_)
 refine W_z mixed [(5, aI .u8 3), (6, aB true)] [4] [k_ 4, k_ 900] (cB [4] [900]) (qz 4 []) aN (by kernel_rfl) ?_
 refine W_ret ?_
 exact kr (cR [900] []) _ ((GApiValue.mk 0 0 0 0), 3, true) (by kernel_rfl) (oinj h)
 refine W_seq ?_
 refine W_z mixed [(14, aB (decide (a1.Kind = 3)))] [0, 3, 4, 10] [k_ 3, k_ 4, k_ 900] (cB [3, 4] [900]) [q_, q_] aN (by kernel_rfl) ?_
 refine W_cd h (by kernel_rfl) (fun hx2 h => ?_) (fun hx2 h => ?_)
 refine W_skip ?_
 refine W_ct (e := (decide (a1.Kind = 3))) hx2 (by kernel_rfl) ?_
 exact W_conv (cB [3, 4] [900] [0, 3, 4]) (by kernel_rfl) (oper_length_j0_ok a1 a0 r_ _ kr h)
 refine W_zl mixed [(14, aB (decide (a1.Kind = 7)))] [0, 3, 4] [k_ 3, k_ 4, k_ 900] (cB [3, 4] [900]) [q_, q_] aN (by kernel_rfl) ?_
 refine W_cd h (by kernel_rfl) (fun hx3 h => ?_) (fun hx3 h => ?_)
 exact W_conv (cB [3, 4] [900] [0, 3, 4]) (by kernel_rfl) (oper_length_j0_ok a1 a0 r_ _ kr h)
 refine W_skip ?_
 refine W_z mixed [(5, aI .u8 0), (6, aB false)] [4] [k_ 4, k_ 900] (cB [4] [900]) (qz 4 []) aN (by kernel_rfl) ?_
 refine W_ret ?_
 exact kr (cR [900] []) _ ((GApiValue.mk 0 0 0 0), 0, false) (by kernel_rfl) (oinj h)
def R_internal_strconv_FormatBool (a0 : Bool) (r : (List UInt8)) : Prop := FnP Try.prog 99 [aB a0] (aS r)
abbrev internal_strconv_FormatBool_e (x : (List UInt8)) : A := (aS x)
noncomputable def internal_strconv_FormatBool (a0 : Bool) : Option (List UInt8) :=
  (if a0 = true then (some ([116, 114, 117, 101] : List UInt8)) else (some ([102, 97, 108, 115, 101] : List UInt8)))
set_option maxRecDepth 100000 in
theorem internal_strconv_FormatBool_ok {a0 : Bool} {r_ : (List UInt8)} (h : internal_strconv_FormatBool a0 = some r_) : R_internal_strconv_FormatBool a0 r_ := by
 unfold internal_strconv_FormatBool at h
 refine fn_pureZ (enc := internal_strconv_FormatBool_e) (by kernel_rfl) fun Q' kr kn => ?_
 refine W_z mixed [] [0] [] c0 [q_] aN (by kernel_rfl) ?_
 refine W_seq ?_
 refine W_z mixed [(3, aB a0)] [] [] c0 [q_] aN (by kernel_rfl) ?_
 refine W_cb h (by kernel_rfl) (fun hx1 h => ?_) (fun hx1 h => ?_)
 refine W_z mixed [(2, aS ([116, 114, 117, 101] : List UInt8))] [] [] c0 [q_] aN (by kernel_rfl) ?_
 refine W_ret ?_
 exact kr [] _ _ (by kernel_rfl) (oinj h)
 refine W_skip ?_
 refine W_z mixed [(2, aS ([102, 97, 108, 115, 101] : List UInt8))] [] [] c0 [q_] aN (by kernel_rfl) ?_
 refine W_ret ?_
 exact kr [] _ _ (by kernel_rfl) (oinj h)
def R_strconv_FormatBool (a0 : Bool) (r : (List UInt8)) : Prop := FnP Try.prog 91 [aB a0] (aS r)
abbrev strconv_FormatBool_e (x : (List UInt8)) : A := (aS x)
noncomputable def strconv_FormatBool (a0 : Bool) : Option (List UInt8) :=
  ((internal_strconv_FormatBool a0).bind fun (r1_1 : (List UInt8)) => (some r1_1))
set_option maxRecDepth 100000 in
theorem strconv_FormatBool_ok {a0 : Bool} {r_ : (List UInt8)} (h : strconv_FormatBool a0 = some r_) : R_strconv_FormatBool a0 r_ := by
 unfold strconv_FormatBool at h
 refine fn_pureZ (enc := strconv_FormatBool_e) (by kernel_rfl) fun Q' kr kn => ?_
 refine W_z mixed [] [0] [] c0 [q_] aN (by kernel_rfl) ?_
 obtain ⟨r1_1, hr1_1, h⟩ := bind_ok h
 have hr1_1 := internal_strconv_FormatBool_ok hr1_1
 refine W_z mixed [(2, aS r1_1)] [] [] c0 [q_, qn (.call [] (aS r1_1)), q_] (aC hr1_1 aN) (by kernel_rfl) ?_
 refine W_ret ?_
 exact kr [] _ _ (by kernel_rfl) (oinj h)
def R_gauss_Text (a0 : GApiComp) (r : (List UInt8)) : Prop := FnP Try.prog 92 [e_GApiComp a0] (aS r)
abbrev gauss_Text_e (x : (List UInt8)) : A := (aS x)
noncomputable def gauss_Text_j0 (v0_4_0 : (List UInt8)) (r1_4 : GApiComp) : Option (List UInt8) :=
  none
def gauss_Text_j0_s (v0_4_0 : (List UInt8)) (r1_4 : GApiComp) : LS := LS.mk 23 [(3, .ptr 3 0), (4, aS v0_4_0)] [(3, some (.box 69 [aI .i64 r1_4.Re, aI .i64 r1_4.Im]))]
set_option maxRecDepth 100000 in
theorem gauss_Text_j0_ok (v0_4_0 : (List UInt8)) (r1_4 : GApiComp) (r_ : (List UInt8)) (Q' : Exit → St → Prop) (kr : KR Try.prog 92 gauss_Text_e r_ .ret Q')  (h : gauss_Text_j0 v0_4_0 r1_4 = some r_) : W Try.prog (subC (bodyC Try.prog 92) [1, 1, 1, 1]) (gauss_Text_j0_s v0_4_0 r1_4).st Q' := by
 unfold gauss_Text_j0 at h
 cases h
noncomputable def gauss_Text (a0 : GApiComp) : Option (List UInt8) :=
  ((gauss_Of a0.Re a0.Im).bind fun (r1_4 : GApiComp) => (if r1_4.Im < 0 then gauss_Text_j0 ([] : List UInt8) r1_4 else gauss_Text_j0 ([43] : List UInt8) r1_4))
set_option maxRecDepth 100000 in
theorem gauss_Text_ok {a0 : GApiComp} {r_ : (List UInt8)} (h : gauss_Text a0 = some r_) : R_gauss_Text a0 r_ := by
 unfold gauss_Text at h
 refine fn_pureZ (enc := gauss_Text_e) (by kernel_rfl) fun Q' kr kn => ?_
 refine W_z mixed [(1, .ptr 1 0)] [] [(1, some (.box 69 [aI .i64 a0.Re, aI .i64 a0.Im]))] (cB [1] []) [q_, q_] aN (by kernel_rfl) ?_
 obtain ⟨r1_4, hr1_4, h⟩ := bind_ok h
 have hr1_4 := gauss_Of_ok hr1_4
 refine W_z mixed [(3, .ptr 3 0)] [] [(3, some (.box 69 [aI .i64 r1_4.Re, aI .i64 r1_4.Im]))] (cB [3] []) [q_, q_, q_, q_, qn (.call [] (e_GApiComp r1_4)), q_, q_] (aC hr1_4 aN) (by kernel_rfl) ?_
 refine W_z mixed [(4, aS ([43] : List UInt8))] [3] [k_ 3] (cB [3] []) [q_] aN (by kernel_rfl) ?_
 refine W_seq ?_
 refine W_z mixed [(12, aB (decide (r1_4.Im < 0)))] [3, 4] [k_ 3] (cB [3] []) [q_, q_, q_] aN (by kernel_rfl) ?_
 refine W_cd h (by kernel_rfl) (fun hx1 h => ?_) (fun hx1 h => ?_)
 refine W_zl mixed [(4, aS ([] : List UInt8))] [3] [k_ 3] (cB [3] []) [q_] aN (by kernel_rfl) ?_
 exact W_conv (cB [3] [] [3, 4]) (by kernel_rfl) (gauss_Text_j0_ok ([] : List UInt8) r1_4 r_ _ kr h)
 refine W_skip ?_
 exact W_conv (cB [3] [] [3, 4]) (by kernel_rfl) (gauss_Text_j0_ok ([43] : List UInt8) r1_4 r_ _ kr h)
def RI_oper_text (a0 : GHeapHeap) (a1 : GApiValue) (r : (GApiValue × Int × Bool × GHeapHeap)) : Prop := FnIO Try.prog 62 [.ob 900, e_GApiValue a1] [(900, .obj (.any (rep_GHeapHeap a0)))] (.tup [e_GApiValue r.1, aI .u8 r.2.1, aB r.2.2.1]) [(900, .obj (.any (rep_GHeapHeap r.2.2.2)))]
abbrev oper_text_e (x : (GApiValue × Int × Bool × GHeapHeap)) : A × List (Nat × Blk) := ((.tup [e_GApiValue x.1, aI .u8 x.2.1, aB x.2.2.1]), [(900, .obj (.any (rep_GHeapHeap x.2.2.2)))])
noncomputable def oper_text (a0 : GHeapHeap) (a1 : GApiValue) : Option (GApiValue × Int × Bool × GHeapHeap) :=
  (if a1.Kind = 1 then none else (if a1.Kind = 2 then ((strconv_FormatBool (!(decide (a1.N = 0)))).bind fun (r5_4 : (List UInt8)) => ((oper_made a0 r5_4).bind fun (r5_5 : (GApiValue × Int × Bool × GHeapHeap)) => (some (r5_5.1, r5_5.2.1, r5_5.2.2.1, r5_5.2.2.2)))) else (if a1.Kind = 4 then ((oper_comp a1).bind fun (r7_2 : GApiComp) => ((gauss_Text r7_2).bind fun (r7_3 : (List UInt8)) => ((oper_made a0 r7_3).bind fun (r7_4 : (GApiValue × Int × Bool × GHeapHeap)) => (some (r7_4.1, r7_4.2.1, r7_4.2.2.1, r7_4.2.2.2))))) else (some ((GApiValue.mk 0 0 0 0), 0, false, a0)))))
set_option maxRecDepth 100000 in
theorem oper_text_ok {a0 : GHeapHeap} {a1 : GApiValue} {r_ : (GApiValue × Int × Bool × GHeapHeap)} (h : oper_text a0 a1 = some r_) : RI_oper_text a0 a1 r_ := by
 unfold oper_text at h
 refine fn_ioZ (enc := oper_text_e) (by kernel_rfl) (by kernel_rfl) fun Q' kr kn => ?_
 refine W_z mixed [(3, .ptr 3 0), (4, .ptr 4 0)] [0] [(3, some (.box 23 [aI .u8 a1.Kind, aI .i64 a1.N, aI .i64 a1.Re, aI .i64 a1.Im])), (4, some (.box 23 [aI .u8 0, aI .i64 0, aI .i64 0, aI .i64 0])), k_ 900] (cB [3, 4] [900]) (qz 4 []) aN (by kernel_rfl) ?_
 refine W_seq ?_
 refine W_z mixed [(8, aI .u8 a1.Kind)] [0, 3, 4] [k_ 3, k_ 4, k_ 900] (cB [3, 4] [900]) [q_, q_] aN (by kernel_rfl) ?_
 refine W_block ?_
 refine W_z mixed [(9, aB (decide (a1.Kind = 1)))] [0, 3, 4, 8] [k_ 3, k_ 4, k_ 900] (cB [3, 4] [900]) [q_, q_] aN (by kernel_rfl) ?_
 refine W_cd h (by kernel_rfl) (fun hx1 h => ?_) (fun hx1 h => ?_)
 cases h
 refine W_z mixed [(19, aB (decide (a1.Kind = 2)))] [0, 3, 4, 8] [k_ 3, k_ 4, k_ 900] (cB [3, 4] [900]) [q_, q_] aN (by kernel_rfl) ?_
 refine W_cd h (by kernel_rfl) (fun hx2 h => ?_) (fun hx2 h => ?_)
 obtain ⟨r5_4, hr5_4, h⟩ := bind_ok h
 have hr5_4 := strconv_FormatBool_ok hr5_4
 obtain ⟨r5_5, hr5_5, h⟩ := bind_ok h
 have hr5_5 := oper_made_ok hr5_5
 refine W_z mixed [(5, aI .u8 r5_5.2.1), (6, aB r5_5.2.2.1)] [4] [(4, some (.box 23 [aI .u8 r5_5.1.Kind, aI .i64 r5_5.1.N, aI .i64 r5_5.1.Re, aI .i64 r5_5.1.Im])), (900, some (.obj (.any (rep_GHeapHeap r5_5.2.2.2))))] (cB [4] [900]) (q_ :: q_ :: q_ :: q_ :: qn (.call [] (aS r5_4)) :: qn (.io ⟨[], [(900, 900)], [], [], [], [], [(900, 900)]⟩ (.tup [e_GApiValue r5_5.1, aI .u8 r5_5.2.1, aB r5_5.2.2.1]) [(900, .obj (.any (rep_GHeapHeap r5_5.2.2.2)))]) :: (qz 6 [])) (aC hr5_4 (aC hr5_5 aN)) (by kernel_rfl) ?_
 refine W_ret ?_
 exact kr (cR [900] []) _ (r5_5.1, r5_5.2.1, r5_5.2.2.1, r5_5.2.2.2) (by kernel_rfl) (oinj h)
 refine W_z mixed [(30, aB (decide (a1.Kind = 4)))] [0, 3, 4] [k_ 3, k_ 4, k_ 900] (cB [3, 4] [900]) [q_, q_] aN (by kernel_rfl) ?_
 refine W_cd h (by kernel_rfl) (fun hx3 h => ?_) (fun hx3 h => ?_)
 obtain ⟨r7_2, hr7_2, h⟩ := bind_ok h
 have hr7_2 := oper_comp_ok hr7_2
 obtain ⟨r7_3, hr7_3, h⟩ := bind_ok h
 have hr7_3 := gauss_Text_ok hr7_3
 obtain ⟨r7_4, hr7_4, h⟩ := bind_ok h
 have hr7_4 := oper_made_ok hr7_4
 refine W_z mixed [(5, aI .u8 r7_4.2.1), (6, aB r7_4.2.2.1)] [4] [(4, some (.box 23 [aI .u8 r7_4.1.Kind, aI .i64 r7_4.1.N, aI .i64 r7_4.1.Re, aI .i64 r7_4.1.Im])), (900, some (.obj (.any (rep_GHeapHeap r7_4.2.2.2))))] (cB [4] [900]) (q_ :: q_ :: qn (.call [] (e_GApiComp r7_2)) :: qn (.call [] (aS r7_3)) :: qn (.io ⟨[], [(900, 900)], [], [], [], [], [(900, 900)]⟩ (.tup [e_GApiValue r7_4.1, aI .u8 r7_4.2.1, aB r7_4.2.2.1]) [(900, .obj (.any (rep_GHeapHeap r7_4.2.2.2)))]) :: (qz 6 [])) (aC hr7_2 (aC hr7_3 (aC hr7_4 aN))) (by kernel_rfl) ?_
 refine W_ret ?_
 exact kr (cR [900] []) _ (r7_4.1, r7_4.2.1, r7_4.2.2.1, r7_4.2.2.2) (by kernel_rfl) (oinj h)
 refine W_skip ?_
 refine W_z mixed [(5, aI .u8 0), (6, aB false)] [4] [k_ 4, k_ 900] (cB [4] [900]) (qz 4 []) aN (by kernel_rfl) ?_
 refine W_ret ?_
 exact kr (cR [900] []) _ ((GApiValue.mk 0 0 0 0), 0, false, a0) (by kernel_rfl) (oinj h)
inductive oper_Built_C where
  | l0 (a2 : Int) (a3 : (List GApiValue)) (r1_1 : ((List Int) × Bool)) (v0_36_0 : Int) (a1 : GOperFeed) (a0 : GHeapHeap)
  | j1 (a2 : Int) (a3 : (List GApiValue)) (a1 : GOperFeed) (a0 : GHeapHeap)
def RI_oper_Built_n (a0 : GHeapHeap) (a1 : Unit) (a2 : Int) (a3 : (List GApiValue)) (r : (GApiValue × Int × Bool × GHeapHeap)) : Prop := FnIO Try.prog 25 [.ob 900, aPnil, aI .i64 a2, .t (.sl 4 (a3.map c_GApiValue))] [(900, .obj (.any (rep_GHeapHeap a0)))] (.tup [e_GApiValue r.1, aI .u8 r.2.1, aB r.2.2.1]) [(900, .obj (.any (rep_GHeapHeap r.2.2.2)))]
inductive oper_Built_n_C where
  | l0 (a2 : Int) (a3 : (List GApiValue)) (r1_1 : ((List Int) × Bool)) (v0_36_0 : Int) (a0 : GHeapHeap)
  | j1 (a2 : Int) (a3 : (List GApiValue)) (a0 : GHeapHeap)
abbrev oper_Built_n_C_T : oper_Built_n_C → Type := fun _ => (GApiValue × Int × Bool × GHeapHeap)
noncomputable def oper_Built_n_l0_b (g : (i : oper_Built_n_C) → Option (oper_Built_n_C_T i)) (a2 : Int) (a3 : (List GApiValue)) (r1_1 : ((List Int) × Bool)) (v0_36_0 : Int) (a0 : GHeapHeap) : Option (GApiValue × Int × Bool × GHeapHeap) :=
  (if v0_36_0 < (r1_1.1.length : Int) then ((getI r1_1.1 v0_36_0).bind fun (x6_1 : Int) => (if x6_1 = 0 then g (.l0 a2 a3 r1_1 (w64 (v0_36_0 + 1)) a0) else ((getI a3 v0_36_0).bind fun (x7_5 : GApiValue) => (if x7_5.Kind = x6_1 then g (.l0 a2 a3 r1_1 (w64 (v0_36_0 + 1)) a0) else (some ((GApiValue.mk 0 0 0 0), 0, false, a0)))))) else g (.j1 a2 a3 a0))
noncomputable def oper_Built_n_j1_b (g : (i : oper_Built_n_C) → Option (oper_Built_n_C_T i)) (a2 : Int) (a3 : (List GApiValue)) (a0 : GHeapHeap) : Option (GApiValue × Int × Bool × GHeapHeap) :=
  (if a2 = 1 then ((getI a3 0).bind fun (x12_2 : GApiValue) => ((oper_length a0 x12_2).bind fun (r12_4 : (GApiValue × Int × Bool)) => (some (r12_4.1, r12_4.2.1, r12_4.2.2, a0)))) else (if a2 = 2 then ((getI a3 0).bind fun (x14_2 : GApiValue) => ((oper_text a0 x14_2).bind fun (r14_4 : (GApiValue × Int × Bool × GHeapHeap)) => (some (r14_4.1, r14_4.2.1, r14_4.2.2.1, r14_4.2.2.2)))) else (if a2 = 3 then ((getI a3 0).bind fun (x16_1 : GApiValue) => ((oper_comp x16_1).bind fun (r16_3 : GApiComp) => ((oper_integer r16_3.Re).bind fun (r16_5 : GApiValue) => (some (r16_5, 0, true, a0))))) else (if a2 = 4 then ((getI a3 0).bind fun (x18_1 : GApiValue) => ((oper_comp x18_1).bind fun (r18_3 : GApiComp) => ((oper_integer r18_3.Im).bind fun (r18_5 : GApiValue) => (some (r18_5, 0, true, a0))))) else (if a2 = 5 then ((getI a3 0).bind fun (x20_1 : GApiValue) => ((getI a3 1).bind fun (x20_5 : GApiValue) => ((gauss_Of x20_1.N x20_5.N).bind fun (r20_8 : GApiComp) => ((oper_value r20_8).bind fun (r20_9 : GApiValue) => (some (r20_9, 0, true, a0)))))) else (if a2 = 6 then ((getI a3 0).bind fun (x22_2 : GApiValue) => (if BytesOb ([(IntKind.wrap .u8 x22_2.N)] : List Int) then ((oper_made a0 (bytesS ([(IntKind.wrap .u8 x22_2.N)] : List Int))).bind fun (r22_8 : (GApiValue × Int × Bool × GHeapHeap)) => (some (r22_8.1, r22_8.2.1, r22_8.2.2.1, r22_8.2.2.2))) else none)) else (if a2 = 8 then ((getI a3 0).bind fun (x24_2 : GApiValue) => ((oper_Feed_Draw_n () x24_2.N).bind fun (rn24_5 : (Int × Int)) => (if rn24_5.2 = 0 then ((oper_integer rn24_5.1).bind fun (r27_1 : GApiValue) => (some (r27_1, 0, true, a0))) else (some ((GApiValue.mk 0 0 0 0), rn24_5.2, true, a0))))) else ((oper_Feed_Read_n ()).bind fun (rn28_1 : (Int × Bool)) => (if rn28_1.2 = true then ((oper_integer rn28_1.1).bind fun (r31_1 : GApiValue) => (some (r31_1, 0, true, a0))) else (some ((GApiValue.mk 0 0 0 0), 6, true, a0)))))))))))
noncomputable def oper_Built_n_B (g : (i : oper_Built_n_C) → Option (oper_Built_n_C_T i)) : (i : oper_Built_n_C) → Option (oper_Built_n_C_T i)
  | .l0 a2 a3 r1_1 v0_36_0 a0 => oper_Built_n_l0_b g a2 a3 r1_1 v0_36_0 a0
  | .j1 a2 a3 a0 => oper_Built_n_j1_b g a2 a3 a0
theorem oper_Built_n_B_fin (i : oper_Built_n_C) : Fin1 (fun g => oper_Built_n_B g i) := by
 cases i
 all_goals (delta oper_Built_n_B; dsimp only)
 unfold oper_Built_n_l0_b; rotate_left
 unfold oper_Built_n_j1_b; rotate_left
 all_goals repeat (first | refine fin_bind ?_ (fun _ => ?_) | refine fin_ite ?_ ?_ | refine fin_opt ?_ (fun _ => ?_) | exact fin_ask _ | exact fin_const _)
noncomputable def oper_Built_n_l0 (a2 : Int) (a3 : (List GApiValue)) (r1_1 : ((List Int) × Bool)) (v0_36_0 : Int) (a0 : GHeapHeap) : Option (GApiValue × Int × Bool × GHeapHeap) := fixD oper_Built_n_B (.l0 a2 a3 r1_1 v0_36_0 a0)
noncomputable def oper_Built_n_j1 (a2 : Int) (a3 : (List GApiValue)) (a0 : GHeapHeap) : Option (GApiValue × Int × Bool × GHeapHeap) := fixD oper_Built_n_B (.j1 a2 a3 a0)
theorem oper_Built_n_l0_eq (a2 : Int) (a3 : (List GApiValue)) (r1_1 : ((List Int) × Bool)) (v0_36_0 : Int) (a0 : GHeapHeap) : oper_Built_n_l0 a2 a3 r1_1 v0_36_0 a0 =
  (if v0_36_0 < (r1_1.1.length : Int) then ((getI r1_1.1 v0_36_0).bind fun (x6_1 : Int) => (if x6_1 = 0 then oper_Built_n_l0 a2 a3 r1_1 (w64 (v0_36_0 + 1)) a0 else ((getI a3 v0_36_0).bind fun (x7_5 : GApiValue) => (if x7_5.Kind = x6_1 then oper_Built_n_l0 a2 a3 r1_1 (w64 (v0_36_0 + 1)) a0 else (some ((GApiValue.mk 0 0 0 0), 0, false, a0)))))) else oper_Built_n_j1 a2 a3 a0) := fix_eq oper_Built_n_B_fin _
theorem oper_Built_n_j1_eq (a2 : Int) (a3 : (List GApiValue)) (a0 : GHeapHeap) : oper_Built_n_j1 a2 a3 a0 =
  (if a2 = 1 then ((getI a3 0).bind fun (x12_2 : GApiValue) => ((oper_length a0 x12_2).bind fun (r12_4 : (GApiValue × Int × Bool)) => (some (r12_4.1, r12_4.2.1, r12_4.2.2, a0)))) else (if a2 = 2 then ((getI a3 0).bind fun (x14_2 : GApiValue) => ((oper_text a0 x14_2).bind fun (r14_4 : (GApiValue × Int × Bool × GHeapHeap)) => (some (r14_4.1, r14_4.2.1, r14_4.2.2.1, r14_4.2.2.2)))) else (if a2 = 3 then ((getI a3 0).bind fun (x16_1 : GApiValue) => ((oper_comp x16_1).bind fun (r16_3 : GApiComp) => ((oper_integer r16_3.Re).bind fun (r16_5 : GApiValue) => (some (r16_5, 0, true, a0))))) else (if a2 = 4 then ((getI a3 0).bind fun (x18_1 : GApiValue) => ((oper_comp x18_1).bind fun (r18_3 : GApiComp) => ((oper_integer r18_3.Im).bind fun (r18_5 : GApiValue) => (some (r18_5, 0, true, a0))))) else (if a2 = 5 then ((getI a3 0).bind fun (x20_1 : GApiValue) => ((getI a3 1).bind fun (x20_5 : GApiValue) => ((gauss_Of x20_1.N x20_5.N).bind fun (r20_8 : GApiComp) => ((oper_value r20_8).bind fun (r20_9 : GApiValue) => (some (r20_9, 0, true, a0)))))) else (if a2 = 6 then ((getI a3 0).bind fun (x22_2 : GApiValue) => (if BytesOb ([(IntKind.wrap .u8 x22_2.N)] : List Int) then ((oper_made a0 (bytesS ([(IntKind.wrap .u8 x22_2.N)] : List Int))).bind fun (r22_8 : (GApiValue × Int × Bool × GHeapHeap)) => (some (r22_8.1, r22_8.2.1, r22_8.2.2.1, r22_8.2.2.2))) else none)) else (if a2 = 8 then ((getI a3 0).bind fun (x24_2 : GApiValue) => ((oper_Feed_Draw_n () x24_2.N).bind fun (rn24_5 : (Int × Int)) => (if rn24_5.2 = 0 then ((oper_integer rn24_5.1).bind fun (r27_1 : GApiValue) => (some (r27_1, 0, true, a0))) else (some ((GApiValue.mk 0 0 0 0), rn24_5.2, true, a0))))) else ((oper_Feed_Read_n ()).bind fun (rn28_1 : (Int × Bool)) => (if rn28_1.2 = true then ((oper_integer rn28_1.1).bind fun (r31_1 : GApiValue) => (some (r31_1, 0, true, a0))) else (some ((GApiValue.mk 0 0 0 0), 6, true, a0))))))))))) := fix_eq oper_Built_n_B_fin _
abbrev oper_Built_n_e (x : (GApiValue × Int × Bool × GHeapHeap)) : A × List (Nat × Blk) := ((.tup [e_GApiValue x.1, aI .u8 x.2.1, aB x.2.2.1]), [(900, .obj (.any (rep_GHeapHeap x.2.2.2)))])
def oper_Built_n_l0_s (a2 : Int) (a3 : (List GApiValue)) (r1_1 : ((List Int) × Bool)) (v0_36_0 : Int) (a0 : GHeapHeap) : LS := LS.mk 144 [(0, .ob 900), (1, aPnil), (2, aI .i64 a2), (3, .t (.sl 4 (a3.map c_GApiValue))), (8, .ptr 8 0), (34, .ref 1034), (35, aI .i64 (r1_1.1.length : Int)), (36, aI .i64 v0_36_0)] [(8, some (.box 23 [aI .u8 0, aI .i64 0, aI .i64 0, aI .i64 0])), (900, some (.obj (.any (rep_GHeapHeap a0)))), (1034, some (.row 5 1 (r1_1.1.map c_u8)))]
def oper_Built_n_j1_s (a2 : Int) (a3 : (List GApiValue)) (a0 : GHeapHeap) : LS := LS.mk 144 [(0, .ob 900), (1, aPnil), (2, aI .i64 a2), (3, .t (.sl 4 (a3.map c_GApiValue))), (8, .ptr 8 0)] [(8, some (.box 23 [aI .u8 0, aI .i64 0, aI .i64 0, aI .i64 0])), (900, some (.obj (.any (rep_GHeapHeap a0))))]
set_option maxRecDepth 100000 in
theorem oper_Built_n_l0_ok (n : Nat)  (a2 : Int) (a3 : (List GApiValue)) (r1_1 : ((List Int) × Bool)) (v0_36_0 : Int) (a0 : GHeapHeap) (r_ : (GApiValue × Int × Bool × GHeapHeap)) (Q' : Exit → St → Prop) (kr : KRI Try.prog 25 oper_Built_n_e r_ .ret Q') (k_x_0 : KX oper_Built_n_B n (.j1 a2 a3 a0) r_ (oper_Built_n_j1_s a2 a3 a0) (.exit 0) Q') (h : recN oper_Built_n_B n (.l0 a2 a3 r1_1 v0_36_0 a0) = some r_) : W Try.prog (subC (bodyC Try.prog 25) [1, 1, 1, 0, 1, 0]) (oper_Built_n_l0_s a2 a3 r1_1 v0_36_0 a0).st Q' := by
 refine W_fix (σ := Int) (fun m x_ => m ≤ n ∧ recN oper_Built_n_B m (.l0 a2 a3 r1_1 x_ a0) = some r_) (fun x_ => oper_Built_n_l0_s a2 a3 r1_1 x_ a0) (fun x hx => by cases hx.2) (fun _ _ => rfl) ?_ n (v0_36_0) ⟨Nat.le_refl _, h⟩
 clear h
 rintro m v0_36_0 ⟨hlt, h⟩
 replace h : oper_Built_n_l0_b (recN oper_Built_n_B m) a2 a3 r1_1 v0_36_0 a0 = some r_ := h
 unfold oper_Built_n_l0_b at h
 refine W_z mixed [(37, aB (decide (v0_36_0 < (r1_1.1.length : Int))))] [0, 1, 2, 3, 8, 34, 35, 36] [k_ 8, k_ 900, k_ 1034] (cB [8] [900, 1034]) [q_] aN (by kernel_rfl) ?_
 refine W_seq ?_
 refine W_cd h (by kernel_rfl) (fun hx1001 h => ?_) (fun hx1001 h => ?_)
 refine W_skip ?_
 refine W_seq ?_
 refine W_block ?_
 obtain ⟨x6_1, hx6_1, h⟩ := bind_ok h
 refine W_z mixed [(13, aI .i64 v0_36_0), (14, aI .u8 x6_1)] [0, 1, 2, 3, 8, 34, 35, 36] [k_ 8, k_ 900, k_ 1034] (cB [8] [900, 1034]) [q_, qn (.ix (Int.toNat v0_36_0) (c_u8 x6_1)), qn (.ix (Int.toNat v0_36_0) (c_u8 x6_1)), q_, q_] (aC (ix_obx c_u8 hx6_1) (aC (el_obx c_u8 hx6_1) aN)) (by kernel_rfl) ?_
 refine if_c h (fun hx1002 h => ?_) (fun hx1002 h => ?_)
 refine W_z mixed [(51, aB false)] [0, 1, 2, 3, 8, 34, 35, 36] [k_ 8, k_ 900, k_ 1034] (cB [8] [900, 1034]) [q_, q_, q_, qf0, qf0, qf0, qf0, qf0, qf0, qf0, qn (.dec false)] (aC (not_t hx1002) (aC (not_t hx1002) (aC (not_t hx1002) (aC (not_t hx1002) (aC (not_t hx1002) (aC (not_t hx1002) (aC (not_t hx1002) (aC (not_t hx1002) aN)))))))) (by kernel_rfl) ?_
 refine W_cf (e := false) rfl (by kernel_rfl) ?_
 refine W_skip ?_
 refine W_zl mixed [(36, aI .i64 (w64 (v0_36_0 + 1)))] [0, 1, 2, 3, 8, 34, 35] [k_ 8, k_ 900, k_ 1034] (cB [8] [900, 1034]) [q_, q_] aN (by kernel_rfl) ?_
 exact ⟨m, ((w64 (v0_36_0 + 1))), Nat.le_refl _, ⟨Nat.le_of_lt hlt, h⟩, convX_fits (v := (cB [8] [900, 1034] [0, 1, 2, 3, 8, 34, 35, 36])) (by kernel_rfl)⟩
 obtain ⟨x7_5, hx7_5, h⟩ := bind_ok h
 refine W_z mixed [(51, aB (!(decide (x7_5.Kind = x6_1))))] [0, 1, 2, 3, 8, 34, 35, 36] [k_ 8, k_ 900, k_ 1034] (cB [8] [900, 1034]) [q_, q_, q_, qt0, qt0, qt (.ix (Int.toNat v0_36_0) (c_GApiValue x7_5)), qt0, qt0, qt0, qt0, qn (.dec true)] (aC (not_f hx1002) (aC (not_f hx1002) (aC (not_f hx1002) (aC (ix_obx c_GApiValue hx7_5) (aC (not_f hx1002) (aC (not_f hx1002) (aC (not_f hx1002) (aC (not_f hx1002) (aC (not_f hx1002) aN))))))))) (by kernel_rfl) ?_
 refine W_cdn h (by kernel_rfl) (fun hx1003 h => ?_) (fun hx1003 h => ?_)
 refine W_skip ?_
 refine W_zl mixed [(36, aI .i64 (w64 (v0_36_0 + 1)))] [0, 1, 2, 3, 8, 34, 35] [k_ 8, k_ 900, k_ 1034] (cB [8] [900, 1034]) [q_, q_] aN (by kernel_rfl) ?_
 exact ⟨m, ((w64 (v0_36_0 + 1))), Nat.le_refl _, ⟨Nat.le_of_lt hlt, h⟩, convX_fits (v := (cB [8] [900, 1034] [0, 1, 2, 3, 8, 34, 35, 36])) (by kernel_rfl)⟩
 refine W_z mixed [(9, aI .u8 0), (10, aB false)] [8] [k_ 8, k_ 900] (cB [8] [900]) (qz 4 []) aN (by kernel_rfl) ?_
 refine W_ret ?_
 exact kr (cR [900] []) _ ((GApiValue.mk 0 0 0 0), 0, false, a0) (by kernel_rfl) (oinj h)
 refine W_exit ?_
 exact k_x_0 m hlt _ h (convX_fits (v := (cB [8] [900] [0, 1, 2, 3, 8])) (by kernel_rfl))
set_option maxRecDepth 100000 in
theorem oper_Built_n_j1_ok (n : Nat)  (a2 : Int) (a3 : (List GApiValue)) (a0 : GHeapHeap) (r_ : (GApiValue × Int × Bool × GHeapHeap)) (Q' : Exit → St → Prop) (kr : KRI Try.prog 25 oper_Built_n_e r_ .ret Q')  (h : recN oper_Built_n_B n (.j1 a2 a3 a0) = some r_) : W Try.prog (subC (bodyC Try.prog 25) [1, 1, 1, 1]) (oper_Built_n_j1_s a2 a3 a0).st Q' := by
 rcases n with _ | m
 cases h
 have hlt := Nat.lt_succ_self m
 replace h : oper_Built_n_j1_b (recN oper_Built_n_B m) a2 a3 a0 = some r_ := h
 unfold oper_Built_n_j1_b at h
 refine W_seq ?_
 refine W_z mixed [(54, aI .i64 a2)] [0, 1, 3, 8] [k_ 8, k_ 900] (cB [8] [900]) [q_] aN (by kernel_rfl) ?_
 refine W_block ?_
 refine W_z mixed [(55, aB (decide (a2 = 1)))] [0, 1, 3, 8, 54] [k_ 8, k_ 900] (cB [8] [900]) [q_, q_] aN (by kernel_rfl) ?_
 refine W_cd h (by kernel_rfl) (fun hx2001 h => ?_) (fun hx2001 h => ?_)
 obtain ⟨x12_2, hx12_2, h⟩ := bind_ok h
 obtain ⟨r12_4, hr12_4, h⟩ := bind_ok h
 have hr12_4 := oper_length_ok hr12_4
 refine W_z mixed [(9, aI .u8 r12_4.2.1), (10, aB r12_4.2.2)] [8] [(8, some (.box 23 [aI .u8 r12_4.1.Kind, aI .i64 r12_4.1.N, aI .i64 r12_4.1.Re, aI .i64 r12_4.1.Im])), k_ 900] (cB [8] [900]) (q_ :: q_ :: qn (.ix (Int.toNat 0) (c_GApiValue x12_2)) :: q_ :: qn (.io ⟨[], [(900, 900)], [], [], [], [], [(900, 900)]⟩ (.tup [e_GApiValue r12_4.1, aI .u8 r12_4.2.1, aB r12_4.2.2]) [(900, .obj (.any (rep_GHeapHeap a0)))]) :: (qz 6 [])) (aC (ix_obx c_GApiValue hx12_2) (aC hr12_4 aN)) (by kernel_rfl) ?_
 refine W_ret ?_
 exact kr (cR [900] []) _ (r12_4.1, r12_4.2.1, r12_4.2.2, a0) (by kernel_rfl) (oinj h)
 refine W_z mixed [(65, aB (decide (a2 = 2)))] [0, 1, 3, 8, 54] [k_ 8, k_ 900] (cB [8] [900]) [q_, q_] aN (by kernel_rfl) ?_
 refine W_cd h (by kernel_rfl) (fun hx2002 h => ?_) (fun hx2002 h => ?_)
 obtain ⟨x14_2, hx14_2, h⟩ := bind_ok h
 obtain ⟨r14_4, hr14_4, h⟩ := bind_ok h
 have hr14_4 := oper_text_ok hr14_4
 refine W_z mixed [(9, aI .u8 r14_4.2.1), (10, aB r14_4.2.2.1)] [8] [(8, some (.box 23 [aI .u8 r14_4.1.Kind, aI .i64 r14_4.1.N, aI .i64 r14_4.1.Re, aI .i64 r14_4.1.Im])), (900, some (.obj (.any (rep_GHeapHeap r14_4.2.2.2))))] (cB [8] [900]) (q_ :: q_ :: qn (.ix (Int.toNat 0) (c_GApiValue x14_2)) :: q_ :: qn (.io ⟨[], [(900, 900)], [], [], [], [], [(900, 900)]⟩ (.tup [e_GApiValue r14_4.1, aI .u8 r14_4.2.1, aB r14_4.2.2.1]) [(900, .obj (.any (rep_GHeapHeap r14_4.2.2.2)))]) :: (qz 6 [])) (aC (ix_obx c_GApiValue hx14_2) (aC hr14_4 aN)) (by kernel_rfl) ?_
 refine W_ret ?_
 exact kr (cR [900] []) _ (r14_4.1, r14_4.2.1, r14_4.2.2.1, r14_4.2.2.2) (by kernel_rfl) (oinj h)
 refine W_z mixed [(75, aB (decide (a2 = 3)))] [0, 1, 3, 8, 54] [k_ 8, k_ 900] (cB [8] [900]) [q_, q_] aN (by kernel_rfl) ?_
 refine W_cd h (by kernel_rfl) (fun hx2003 h => ?_) (fun hx2003 h => ?_)
 obtain ⟨x16_1, hx16_1, h⟩ := bind_ok h
 obtain ⟨r16_3, hr16_3, h⟩ := bind_ok h
 have hr16_3 := oper_comp_ok hr16_3
 obtain ⟨r16_5, hr16_5, h⟩ := bind_ok h
 have hr16_5 := oper_integer_ok hr16_5
 refine W_z mixed [(9, aI .u8 0), (10, aB true)] [8] [(8, some (.box 23 [aI .u8 r16_5.Kind, aI .i64 r16_5.N, aI .i64 r16_5.Re, aI .i64 r16_5.Im])), k_ 900] (cB [8] [900]) [q_, qn (.ix (Int.toNat 0) (c_GApiValue x16_1)), q_, qn (.call [] (e_GApiComp r16_3)), q_, qn (.call [] (e_GApiValue r16_5)), q_, q_, q_] (aC (ix_obx c_GApiValue hx16_1) (aC hr16_3 (aC hr16_5 aN))) (by kernel_rfl) ?_
 refine W_ret ?_
 exact kr (cR [900] []) _ (r16_5, 0, true, a0) (by kernel_rfl) (oinj h)
 refine W_z mixed [(83, aB (decide (a2 = 4)))] [0, 1, 3, 8, 54] [k_ 8, k_ 900] (cB [8] [900]) [q_, q_] aN (by kernel_rfl) ?_
 refine W_cd h (by kernel_rfl) (fun hx2004 h => ?_) (fun hx2004 h => ?_)
 obtain ⟨x18_1, hx18_1, h⟩ := bind_ok h
 obtain ⟨r18_3, hr18_3, h⟩ := bind_ok h
 have hr18_3 := oper_comp_ok hr18_3
 obtain ⟨r18_5, hr18_5, h⟩ := bind_ok h
 have hr18_5 := oper_integer_ok hr18_5
 refine W_z mixed [(9, aI .u8 0), (10, aB true)] [8] [(8, some (.box 23 [aI .u8 r18_5.Kind, aI .i64 r18_5.N, aI .i64 r18_5.Re, aI .i64 r18_5.Im])), k_ 900] (cB [8] [900]) [q_, qn (.ix (Int.toNat 0) (c_GApiValue x18_1)), q_, qn (.call [] (e_GApiComp r18_3)), q_, qn (.call [] (e_GApiValue r18_5)), q_, q_, q_] (aC (ix_obx c_GApiValue hx18_1) (aC hr18_3 (aC hr18_5 aN))) (by kernel_rfl) ?_
 refine W_ret ?_
 exact kr (cR [900] []) _ (r18_5, 0, true, a0) (by kernel_rfl) (oinj h)
 refine W_z mixed [(91, aB (decide (a2 = 5)))] [0, 1, 3, 8, 54] [k_ 8, k_ 900] (cB [8] [900]) [q_, q_] aN (by kernel_rfl) ?_
 refine W_cd h (by kernel_rfl) (fun hx2005 h => ?_) (fun hx2005 h => ?_)
 obtain ⟨x20_1, hx20_1, h⟩ := bind_ok h
 obtain ⟨x20_5, hx20_5, h⟩ := bind_ok h
 obtain ⟨r20_8, hr20_8, h⟩ := bind_ok h
 have hr20_8 := gauss_Of_ok hr20_8
 obtain ⟨r20_9, hr20_9, h⟩ := bind_ok h
 have hr20_9 := oper_value_ok hr20_9
 refine W_z mixed [(9, aI .u8 0), (10, aB true)] [8] [(8, some (.box 23 [aI .u8 r20_9.Kind, aI .i64 r20_9.N, aI .i64 r20_9.Re, aI .i64 r20_9.Im])), k_ 900] (cB [8] [900]) [q_, qn (.ix (Int.toNat 0) (c_GApiValue x20_1)), q_, q_, q_, qn (.ix (Int.toNat 1) (c_GApiValue x20_5)), q_, q_, qn (.call [] (e_GApiComp r20_8)), qn (.call [] (e_GApiValue r20_9)), q_, q_, q_] (aC (ix_obx c_GApiValue hx20_1) (aC (ix_obx c_GApiValue hx20_5) (aC hr20_8 (aC hr20_9 aN)))) (by kernel_rfl) ?_
 refine W_ret ?_
 exact kr (cR [900] []) _ (r20_9, 0, true, a0) (by kernel_rfl) (oinj h)
 refine W_z mixed [(103, aB (decide (a2 = 6)))] [0, 1, 3, 8, 54] [k_ 8, k_ 900] (cB [8] [900]) [q_, q_] aN (by kernel_rfl) ?_
 refine W_cd h (by kernel_rfl) (fun hx2006 h => ?_) (fun hx2006 h => ?_)
 obtain ⟨x22_2, hx22_2, h⟩ := bind_ok h
 obtain ⟨hd2007, h⟩ := ite_ok h
 obtain ⟨r22_8, hr22_8, h⟩ := bind_ok h
 have hr22_8 := oper_made_ok hr22_8
 refine W_z mixed [(9, aI .u8 r22_8.2.1), (10, aB r22_8.2.2.1)] [8] [(8, some (.box 23 [aI .u8 r22_8.1.Kind, aI .i64 r22_8.1.N, aI .i64 r22_8.1.Re, aI .i64 r22_8.1.Im])), (900, some (.obj (.any (rep_GHeapHeap r22_8.2.2.2))))] (cB [8] [900]) (q_ :: q_ :: qn (.ix (Int.toNat 0) (c_GApiValue x22_2)) :: q_ :: q_ :: q_ :: q_ :: qn (.quiet (aS (bytesS ([(IntKind.wrap .u8 x22_2.N)] : List Int)))) :: qn (.io ⟨[], [(900, 900)], [], [], [], [], [(900, 900)]⟩ (.tup [e_GApiValue r22_8.1, aI .u8 r22_8.2.1, aB r22_8.2.2.1]) [(900, .obj (.any (rep_GHeapHeap r22_8.2.2.2)))]) :: (qz 6 [])) (aC (ix_obx c_GApiValue hx22_2) (aC (show Quiet Try.prog (opAt (subC (bodyC Try.prog 25) [1, 1, 1, 1, 0, 1, 0, 1, 1, 1, 1, 1, 1, 1, 1, 1, 1, 1, 0, 0]) 7) [.t (.sl 1 (([(IntKind.wrap .u8 x22_2.N)] : List Int).map c_u8))] (aS (bytesS ([(IntKind.wrap .u8 x22_2.N)] : List Int))) from bytesS_ob (e := 5) (by rfl) (by kernel_rfl) (by kernel_rfl) (by kernel_rfl) c_u8 rfl hd2007) (aC hr22_8 aN))) (by kernel_rfl) ?_
 refine W_ret ?_
 exact kr (cR [900] []) _ (r22_8.1, r22_8.2.1, r22_8.2.2.1, r22_8.2.2.2) (by kernel_rfl) (oinj h)
 refine W_z mixed [(117, aB (decide (a2 = 8)))] [1, 3, 8] [k_ 8, k_ 900] (cB [8] [900]) [q_, q_] aN (by kernel_rfl) ?_
 refine W_cd h (by kernel_rfl) (fun hx2008 h => ?_) (fun hx2008 h => ?_)
 obtain ⟨x24_2, hx24_2, h⟩ := bind_ok h
 obtain ⟨rn24_5, hrn24_5, h⟩ := bind_ok h
 have hrn24_5 := oper_Feed_Draw_n_ok hrn24_5
 refine W_z mixed [(15, aI .i64 rn24_5.1), (16, aI .u8 rn24_5.2)] [8] [k_ 8, k_ 900] (cB [8] [900]) [q_, q_, qn (.ix (Int.toNat 0) (c_GApiValue x24_2)), q_, q_, qn (.call [] (.tup [aI .i64 rn24_5.1, aI .u8 rn24_5.2])), q_, q_, q_, q_, q_] (aC (ix_obx c_GApiValue hx24_2) (aC hrn24_5 aN)) (by kernel_rfl) ?_
 refine W_seq ?_
 refine W_z mixed [(129, aB (!(decide (rn24_5.2 = 0))))] [8, 15, 16] [k_ 8, k_ 900] (cB [8] [900]) [q_, q_] aN (by kernel_rfl) ?_
 refine W_cdn h (by kernel_rfl) (fun hx2009 h => ?_) (fun hx2009 h => ?_)
 refine W_skip ?_
 obtain ⟨r27_1, hr27_1, h⟩ := bind_ok h
 have hr27_1 := oper_integer_ok hr27_1
 refine W_z mixed [(9, aI .u8 0), (10, aB true)] [8] [(8, some (.box 23 [aI .u8 r27_1.Kind, aI .i64 r27_1.N, aI .i64 r27_1.Re, aI .i64 r27_1.Im])), k_ 900] (cB [8] [900]) [q_, qn (.call [] (e_GApiValue r27_1)), q_, q_, q_] (aC hr27_1 aN) (by kernel_rfl) ?_
 refine W_ret ?_
 exact kr (cR [900] []) _ (r27_1, 0, true, a0) (by kernel_rfl) (oinj h)
 refine W_z mixed [(9, aI .u8 rn24_5.2), (10, aB true)] [8] [k_ 8, k_ 900] (cB [8] [900]) (qz 5 []) aN (by kernel_rfl) ?_
 refine W_ret ?_
 exact kr (cR [900] []) _ ((GApiValue.mk 0 0 0 0), rn24_5.2, true, a0) (by kernel_rfl) (oinj h)
 refine W_skip ?_
 obtain ⟨rn28_1, hrn28_1, h⟩ := bind_ok h
 have hrn28_1 := oper_Feed_Read_n_ok hrn28_1
 refine W_z mixed [(17, aI .i64 rn28_1.1), (18, aB rn28_1.2)] [8] [k_ 8, k_ 900] (cB [8] [900]) [q_, qn (.call [] (.tup [aI .i64 rn28_1.1, aB rn28_1.2])), q_, q_, q_, q_, q_] (aC hrn28_1 aN) (by kernel_rfl) ?_
 refine W_seq ?_
 refine W_z mixed [(140, aB (!rn28_1.2))] [8, 17] [k_ 8, k_ 900] (cB [8] [900]) [q_, q_] aN (by kernel_rfl) ?_
 refine W_cbn h (by kernel_rfl) (fun hx2010 h => ?_) (fun hx2010 h => ?_)
 refine W_skip ?_
 obtain ⟨r31_1, hr31_1, h⟩ := bind_ok h
 have hr31_1 := oper_integer_ok hr31_1
 refine W_z mixed [(9, aI .u8 0), (10, aB true)] [8] [(8, some (.box 23 [aI .u8 r31_1.Kind, aI .i64 r31_1.N, aI .i64 r31_1.Re, aI .i64 r31_1.Im])), k_ 900] (cB [8] [900]) [q_, qn (.call [] (e_GApiValue r31_1)), q_, q_, q_] (aC hr31_1 aN) (by kernel_rfl) ?_
 refine W_ret ?_
 exact kr (cR [900] []) _ (r31_1, 0, true, a0) (by kernel_rfl) (oinj h)
 refine W_z mixed [(9, aI .u8 6), (10, aB true)] [8] [k_ 8, k_ 900] (cB [8] [900]) (qz 4 []) aN (by kernel_rfl) ?_
 refine W_ret ?_
 exact kr (cR [900] []) _ ((GApiValue.mk 0 0 0 0), 6, true, a0) (by kernel_rfl) (oinj h)
noncomputable def oper_Built_n (a0 : GHeapHeap) (a1 : Unit) (a2 : Int) (a3 : (List GApiValue)) : Option (GApiValue × Int × Bool × GHeapHeap) :=
  ((oper_kinds a2).bind fun (r1_1 : ((List Int) × Bool)) => (if r1_1.2 = true then (if (a3.length : Int) = (r1_1.1.length : Int) then oper_Built_n_l0 a2 a3 r1_1 0 a0 else (some ((GApiValue.mk 0 0 0 0), 0, false, a0))) else (some ((GApiValue.mk 0 0 0 0), 0, false, a0))))
set_option maxRecDepth 100000 in
theorem oper_Built_n_ok {a0 : GHeapHeap} {a1 : Unit} {a2 : Int} {a3 : (List GApiValue)} {r_ : (GApiValue × Int × Bool × GHeapHeap)} (h : oper_Built_n a0 a1 a2 a3 = some r_) : RI_oper_Built_n a0 a1 a2 a3 r_ := by
 unfold oper_Built_n at h
 refine fn_ioZ (enc := oper_Built_n_e) (by kernel_rfl) (by kernel_rfl) fun Q' kr kn => ?_
 refine W_z mixed [(8, .ptr 8 0)] [0, 1, 2, 3] [(8, some (.box 23 [aI .u8 0, aI .i64 0, aI .i64 0, aI .i64 0])), k_ 900] (cB [8] [900]) [q_, q_, q_] aN (by kernel_rfl) ?_
 obtain ⟨r1_1, hr1_1, h⟩ := bind_ok h
 have hr1_1 := oper_kinds_ok hr1_1
 refine W_z mixed [(11, .ref 1011), (12, aB r1_1.2)] [0, 1, 2, 3, 8] [k_ 8, (1011, some (.row 5 1 (r1_1.1.map c_u8))), k_ 900] (cG [] [8] [] [(21, 1011), (900, 900)] [] []) [q_, qn (.io ⟨[], [], [], [], [], [], [(800000, 21)]⟩ (.tup [.ref 800000, aB r1_1.2]) [(800000, .row 5 1 (r1_1.1.map c_u8))]), q_, q_, q_, q_, q_] (aC hr1_1 aN) (by kernel_rfl) ?_
 refine W_seq ?_
 refine ib_c h (fun hx1 h => ?_) (fun hx1 h => ?_)
 refine W_z mixed [(32, aB (!(decide ((a3.length : Int) = (r1_1.1.length : Int)))))] [0, 1, 2, 3, 8, 11] [k_ 8, k_ 900, k_ 1011] (cB [8] [900, 1011]) [q_, q_, q_, qf0, qf (.len a3.length), qf0, qf (.len r1_1.1.length), qf0, qn (.dec false)] (aC (not_t hx1) (aC (not_t hx1) (aC (len_obx c_GApiValue a3) (aC (not_t hx1) (aC (not_t hx1) (aC (len_obx c_u8 r1_1.1) (aC (not_t hx1) (aC (not_t hx1) aN)))))))) (by kernel_rfl) ?_
 refine W_cdn h (by kernel_rfl) (fun hx2 h => ?_) (fun hx2 h => ?_)
 refine W_skip ?_
 refine W_seq ?_
 refine W_z mixed [(34, .ref 1034), (35, aI .i64 (r1_1.1.length : Int)), (36, aI .i64 0)] [0, 1, 2, 3, 8] [k_ 8, k_ 900, (1034, some (.row 5 1 (r1_1.1.map c_u8)))] (cG [] [8] [] [(900, 900), (1011, 1034)] [] []) [q_, qn (.len r1_1.1.length), q_] (aC (len_obx c_u8 r1_1.1) aN) (by kernel_rfl) ?_
 refine W_block ?_
 obtain ⟨n, h⟩ := fix_rec h
 exact W_conv (cB [8] [900, 1034] [0, 1, 2, 3, 8, 34, 35, 36]) (by kernel_rfl) (oper_Built_n_l0_ok n a2 a3 r1_1 0 a0 r_ _ kr (fun q1 hq1 s' h hf => W_pre hf (oper_Built_n_j1_ok q1 a2 a3 a0 r_ _ kr h)) h)
 refine W_z mixed [(9, aI .u8 0), (10, aB false)] [8] [k_ 8, k_ 900] (cB [8] [900]) (qz 4 []) aN (by kernel_rfl) ?_
 refine W_ret ?_
 exact kr (cR [900] []) _ ((GApiValue.mk 0 0 0 0), 0, false, a0) (by kernel_rfl) (oinj h)
 refine W_z mixed [(32, aB true)] [0, 1, 2, 3, 8, 11] [k_ 8, k_ 900, k_ 1011] (cB [8] [900, 1011]) [q_, q_, q_, qt0, qt0, qt0, qt0, qt0, qn (.dec true)] (aC (not_f hx1) (aC (not_f hx1) (aC (not_f hx1) (aC (not_f hx1) (aC (not_f hx1) (aC (not_f hx1) aN)))))) (by kernel_rfl) ?_
 refine W_ct (e := true) rfl (by kernel_rfl) ?_
 refine W_z mixed [(9, aI .u8 0), (10, aB false)] [8] [k_ 8, k_ 900] (cB [8] [900]) (qz 4 []) aN (by kernel_rfl) ?_
 refine W_ret ?_
 exact kr (cR [900] []) _ ((GApiValue.mk 0 0 0 0), 0, false, a0) (by kernel_rfl) (oinj h)
end Go.Proofs.Ytmffhifkdbfbfaa
