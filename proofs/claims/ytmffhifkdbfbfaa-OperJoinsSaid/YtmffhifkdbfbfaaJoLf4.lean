/- Parts of the proof. -/
import Derived.Test.YtmffhifkdbfbfaaJoLf3
namespace Go.Proofs.Ytmffhifkdbfbfaa
open Go.RowKit
set_option linter.unusedVariables false
set_option maxHeartbeats 4000000
def R_hindcastlaw13_OperJoins (a0 : (List UInt8)) (a1 : (List UInt8)) (a2 : (List UInt8)) (r : Bool) : Prop := FnP Try.prog 7 [aS a0, aS a1, aS a2] (aB r)
abbrev hindcastlaw13_OperJoins_e (x : Bool) : A := (aB x)
noncomputable def hindcastlaw13_OperJoins_j0  : Option Bool :=
  ((hindcastlaw13_awake).bind fun (r2_0 : Bool) => (some r2_0))
def hindcastlaw13_OperJoins_j0_s  : LS := LS.mk 193 [] []
set_option maxRecDepth 100000 in
theorem hindcastlaw13_OperJoins_j0_ok  (r_ : Bool) (Q' : Exit → St → Prop) (kr : KR Try.prog 7 hindcastlaw13_OperJoins_e r_ .ret Q')  (h : hindcastlaw13_OperJoins_j0  = some r_) : W Try.prog (subC (bodyC Try.prog 7) [1, 0, 1, 0]) (hindcastlaw13_OperJoins_j0_s ).st Q' := by
 unfold hindcastlaw13_OperJoins_j0 at h
 obtain ⟨r2_0, hr2_0, h⟩ := bind_ok h
 have hr2_0 := hindcastlaw13_awake_ok hr2_0
 refine W_z mixed [(6, aB r2_0)] [] [] c0 [qn (.call [] (aB r2_0)), q_] (aC hr2_0 aN) (by kernel_rfl) ?_
 refine W_ret ?_
 exact kr [] _ _ (by kernel_rfl) (oinj h)
noncomputable def hindcastlaw13_OperJoins (a0 : (List UInt8)) (a1 : (List UInt8)) (a2 : (List UInt8)) : Option Bool :=
  (if (a0.length : Int) > 1000 then hindcastlaw13_OperJoins_j0 else (if (a1.length : Int) > 1000 then hindcastlaw13_OperJoins_j0 else (if (a2.length : Int) > 1000 then hindcastlaw13_OperJoins_j0 else ((xheap_New 65536).bind fun (r3_0 : ((Option GHeapHeap) × Int)) => optCase r3_0.1 (some false) fun (y3_0 : GHeapHeap) => (if r3_0.2 = 0 then ((xheap_Heap_Str y3_0 a0).bind fun (r6_2 : (GApiValue × Bool × GHeapHeap)) => ((xheap_Heap_Str r6_2.2.2 a1).bind fun (r7_2 : (GApiValue × Bool × GHeapHeap)) => ((xheap_Heap_Str r7_2.2.2 a2).bind fun (r8_2 : (GApiValue × Bool × GHeapHeap)) => ((oper_Bin r8_2.2.2 1 r6_2.1 r7_2.1).bind fun (r9_3 : (GApiValue × Int × Bool × GHeapHeap)) => ((oper_Bin r9_3.2.2.2 1 r9_3.1 r8_2.1).bind fun (r10_3 : (GApiValue × Int × Bool × GHeapHeap)) => ((oper_Bin r10_3.2.2.2 1 r7_2.1 r8_2.1).bind fun (r11_3 : (GApiValue × Int × Bool × GHeapHeap)) => ((oper_Bin r11_3.2.2.2 1 r6_2.1 r11_3.1).bind fun (r12_3 : (GApiValue × Int × Bool × GHeapHeap)) => (if r9_3.2.1 = 0 then (if r10_3.2.1 = 0 then (if r11_3.2.1 = 0 then (if r12_3.2.1 = 0 then (if r9_3.2.2.1 = true then (if r10_3.2.2.1 = true then (if r11_3.2.2.1 = true then (if r12_3.2.2.1 = true then ((xheap_Heap_Text r12_3.2.2.2 r10_3.1).bind fun (r15_2 : ((List UInt8) × Bool)) => ((xheap_Heap_Text r12_3.2.2.2 r12_3.1).bind fun (r16_2 : ((List UInt8) × Bool)) => ((oper_Built_n r12_3.2.2.2 () 1 ([r10_3.1] : List GApiValue)).bind fun (rn17_3 : (GApiValue × Int × Bool × GHeapHeap)) => (if r15_2.2 = true then (if r16_2.2 = true then (if CatOb a0 a1 then (if CatOb (a0 ++ a1) a2 then (if r15_2.1 = ((a0 ++ a1) ++ a2) then (if r16_2.1 = r15_2.1 then (if rn17_3.2.2.1 = true then (if rn17_3.2.1 = 0 then (if rn17_3.1.N = (r15_2.1.length : Int) then ((hindcastlaw13_awake).bind fun (r18_33 : Bool) => (some r18_33)) else (some false)) else (some false)) else (some false)) else (some false)) else (some false)) else none) else none) else (some false)) else (some false))))) else (some false)) else (some false)) else (some false)) else (some false)) else (some false)) else (some false)) else (some false)) else (some false))))))))) else (some false))))))
set_option maxRecDepth 100000 in
theorem hindcastlaw13_OperJoins_ok {a0 : (List UInt8)} {a1 : (List UInt8)} {a2 : (List UInt8)} {r_ : Bool} (h : hindcastlaw13_OperJoins a0 a1 a2 = some r_) : R_hindcastlaw13_OperJoins a0 a1 a2 r_ := by
 unfold hindcastlaw13_OperJoins at h
 refine fn_pureZ (enc := hindcastlaw13_OperJoins_e) (by kernel_rfl) fun Q' kr kn => ?_
 refine W_z mixed [] [0, 1, 2] [] c0 [q_] aN (by kernel_rfl) ?_
 refine W_seq ?_
 refine if_c h (fun hx1 h => ?_) (fun hx1 h => ?_)
 refine W_z mixed [(46, aB true)] [0, 1, 2] [] c0 [q_, q_, q_, q_, qt0, qt0, qt0, qn (.dec true), q_, q_, q_, q_, q_] (aC hx1 (aC hx1 (aC hx1 (aC hx1 aN)))) (by kernel_rfl) ?_
 refine W_ct (e := true) rfl (by kernel_rfl) ?_
 exact W_conv (c0 []) (by kernel_rfl) (hindcastlaw13_OperJoins_j0_ok r_ _ kr h)
 refine if_c h (fun hx2 h => ?_) (fun hx2 h => ?_)
 refine W_z mixed [(46, aB true)] [0, 1, 2] [] c0 [q_, q_, q_, q_, qf0, qf0, qf0, qn (.dec false), q_, qt0, qt0, qt0, qn (.dec true)] (aC hx1 (aC hx1 (aC hx1 (aC hx1 (aC hx2 (aC hx2 (aC hx2 (aC hx2 aN)))))))) (by kernel_rfl) ?_
 refine W_ct (e := true) rfl (by kernel_rfl) ?_
 exact W_conv (c0 []) (by kernel_rfl) (hindcastlaw13_OperJoins_j0_ok r_ _ kr h)
 refine W_z mixed [(46, aB (decide ((a2.length : Int) > 1000)))] [0, 1, 2] [] c0 [q_, q_, q_, q_, qf0, qf0, qf0, qn (.dec false), q_, qf0, qf0, qf0, qn (.dec false)] (aC hx1 (aC hx1 (aC hx1 (aC hx1 (aC hx2 (aC hx2 (aC hx2 (aC hx2 aN)))))))) (by kernel_rfl) ?_
 refine W_cd h (by kernel_rfl) (fun hx3 h => ?_) (fun hx3 h => ?_)
 exact W_conv (c0 []) (by kernel_rfl) (hindcastlaw13_OperJoins_j0_ok r_ _ kr h)
 refine W_skip ?_
 obtain ⟨r3_0, hr3_0, h⟩ := bind_ok h
 have hr3_0 := xheap_New_ok hr3_0
 unfold RI_heap_New at hr3_0
 rcases hc_y3_0 : r3_0.1 with _ | y3_0
 rw [hc_y3_0] at hr3_0
 have h := oc_nx hc_y3_0 h
 refine W_z mixed [(7, aPnil), (8, aI .i64 r3_0.2)] [0, 1, 2] [] c0 [qn (.io ⟨[], [], [], [], [], [], []⟩ (.tup [aPnil, aI .i64 r3_0.2]) []), q_, q_, q_, q_, q_] (aC hr3_0 aN) (by kernel_rfl) ?_
 refine W_seq ?_
 refine W_z mixed [(57, aB true)] [0, 1, 2, 7] [] c0 (qz 6 []) aN (by kernel_rfl) ?_
 refine W_ct (e := true) rfl (by kernel_rfl) ?_
 refine W_z mixed [(6, aB false)] [] [] c0 [q_] aN (by kernel_rfl) ?_
 refine W_ret ?_
 exact kr [] _ _ (by kernel_rfl) (oinj h)
 rw [hc_y3_0] at hr3_0
 have h := oc_sx hc_y3_0 h
 refine W_z mixed [(7, .ob 1007), (8, aI .i64 r3_0.2)] [0, 1, 2] [(1007, some (.obj (.any (rep_GHeapHeap y3_0))))] (cG [] [] [] [(49, 1007)] [] []) [qn (.io ⟨[], [], [], [], [], [], [(700000, 49)]⟩ (.tup [.ob 700000, aI .i64 r3_0.2]) [(700000, .obj (.any (rep_GHeapHeap y3_0)))]), q_, q_, q_, q_, q_] (aC hr3_0 aN) (by kernel_rfl) ?_
 refine W_seq ?_
 refine W_z mixed [(57, aB (!(decide (r3_0.2 = 0))))] [0, 1, 2, 7] [k_ 1007] (cR [1007]) (qz 6 []) aN (by kernel_rfl) ?_
 refine W_cdn h (by kernel_rfl) (fun hx4 h => ?_) (fun hx4 h => ?_)
 refine W_skip ?_
 obtain ⟨r6_2, hr6_2, h⟩ := bind_ok h
 have hr6_2 := xheap_Heap_Str_ok hr6_2
 refine W_z mixed [(9, .ptr 9 0)] [0, 1, 2, 7] [(9, some (.box 23 [aI .u8 r6_2.1.Kind, aI .i64 r6_2.1.N, aI .i64 r6_2.1.Re, aI .i64 r6_2.1.Im])), (1007, some (.obj (.any (rep_GHeapHeap r6_2.2.2))))] (cB [9] [1007]) (q_ :: q_ :: qn (.io ⟨[], [(1007, 900)], [], [], [], [], [(900, 1007)]⟩ (.tup [e_GApiValue r6_2.1, aB r6_2.2.1]) [(900, .obj (.any (rep_GHeapHeap r6_2.2.2)))]) :: (qz 6 [])) (aC hr6_2 aN) (by kernel_rfl) ?_
 obtain ⟨r7_2, hr7_2, h⟩ := bind_ok h
 have hr7_2 := xheap_Heap_Str_ok hr7_2
 refine W_z mixed [(11, .ptr 11 0)] [0, 1, 2, 7, 9] [k_ 9, (11, some (.box 23 [aI .u8 r7_2.1.Kind, aI .i64 r7_2.1.N, aI .i64 r7_2.1.Re, aI .i64 r7_2.1.Im])), (1007, some (.obj (.any (rep_GHeapHeap r7_2.2.2))))] (cB [9, 11] [1007]) (q_ :: q_ :: qn (.io ⟨[], [(1007, 900)], [], [], [], [], [(900, 1007)]⟩ (.tup [e_GApiValue r7_2.1, aB r7_2.2.1]) [(900, .obj (.any (rep_GHeapHeap r7_2.2.2)))]) :: (qz 6 [])) (aC hr7_2 aN) (by kernel_rfl) ?_
 obtain ⟨r8_2, hr8_2, h⟩ := bind_ok h
 have hr8_2 := xheap_Heap_Str_ok hr8_2
 refine W_z mixed [(13, .ptr 13 0)] [0, 1, 2, 7, 9, 11] [k_ 9, k_ 11, (13, some (.box 23 [aI .u8 r8_2.1.Kind, aI .i64 r8_2.1.N, aI .i64 r8_2.1.Re, aI .i64 r8_2.1.Im])), (1007, some (.obj (.any (rep_GHeapHeap r8_2.2.2))))] (cB [9, 11, 13] [1007]) (q_ :: q_ :: qn (.io ⟨[], [(1007, 900)], [], [], [], [], [(900, 1007)]⟩ (.tup [e_GApiValue r8_2.1, aB r8_2.2.1]) [(900, .obj (.any (rep_GHeapHeap r8_2.2.2)))]) :: (qz 6 [])) (aC hr8_2 aN) (by kernel_rfl) ?_
 obtain ⟨r9_3, hr9_3, h⟩ := bind_ok h
 have hr9_3 := oper_Bin_ok hr9_3
 refine W_z mixed [(15, .ptr 15 0), (16, aI .u8 r9_3.2.1), (17, aB r9_3.2.2.1)] [0, 1, 2, 7, 9, 11, 13] [k_ 9, k_ 11, k_ 13, (15, some (.box 23 [aI .u8 r9_3.1.Kind, aI .i64 r9_3.1.N, aI .i64 r9_3.1.Re, aI .i64 r9_3.1.Im])), (1007, some (.obj (.any (rep_GHeapHeap r9_3.2.2.2))))] (cB [9, 11, 13, 15] [1007]) (q_ :: q_ :: q_ :: qn (.io ⟨[], [(1007, 900)], [], [], [], [], [(900, 1007)]⟩ (.tup [e_GApiValue r9_3.1, aI .u8 r9_3.2.1, aB r9_3.2.2.1]) [(900, .obj (.any (rep_GHeapHeap r9_3.2.2.2)))]) :: (qz 8 [])) (aC hr9_3 aN) (by kernel_rfl) ?_
 obtain ⟨r10_3, hr10_3, h⟩ := bind_ok h
 have hr10_3 := oper_Bin_ok hr10_3
 refine W_z mixed [(18, .ptr 18 0), (19, aI .u8 r10_3.2.1), (20, aB r10_3.2.2.1)] [0, 1, 2, 7, 9, 11, 13, 16, 17] [k_ 9, k_ 11, k_ 13, (18, some (.box 23 [aI .u8 r10_3.1.Kind, aI .i64 r10_3.1.N, aI .i64 r10_3.1.Re, aI .i64 r10_3.1.Im])), (1007, some (.obj (.any (rep_GHeapHeap r10_3.2.2.2))))] (cB [9, 11, 13, 18] [1007]) (q_ :: q_ :: q_ :: qn (.io ⟨[], [(1007, 900)], [], [], [], [], [(900, 1007)]⟩ (.tup [e_GApiValue r10_3.1, aI .u8 r10_3.2.1, aB r10_3.2.2.1]) [(900, .obj (.any (rep_GHeapHeap r10_3.2.2.2)))]) :: (qz 8 [])) (aC hr10_3 aN) (by kernel_rfl) ?_
 obtain ⟨r11_3, hr11_3, h⟩ := bind_ok h
 have hr11_3 := oper_Bin_ok hr11_3
 refine W_z mixed [(21, .ptr 21 0), (22, aI .u8 r11_3.2.1), (23, aB r11_3.2.2.1)] [0, 1, 2, 7, 9, 16, 17, 18, 19, 20] [k_ 9, k_ 18, (21, some (.box 23 [aI .u8 r11_3.1.Kind, aI .i64 r11_3.1.N, aI .i64 r11_3.1.Re, aI .i64 r11_3.1.Im])), (1007, some (.obj (.any (rep_GHeapHeap r11_3.2.2.2))))] (cB [9, 18, 21] [1007]) (q_ :: q_ :: q_ :: qn (.io ⟨[], [(1007, 900)], [], [], [], [], [(900, 1007)]⟩ (.tup [e_GApiValue r11_3.1, aI .u8 r11_3.2.1, aB r11_3.2.2.1]) [(900, .obj (.any (rep_GHeapHeap r11_3.2.2.2)))]) :: (qz 8 [])) (aC hr11_3 aN) (by kernel_rfl) ?_
 obtain ⟨r12_3, hr12_3, h⟩ := bind_ok h
 have hr12_3 := oper_Bin_ok hr12_3
 refine W_z mixed [(24, .ptr 24 0), (25, aI .u8 r12_3.2.1), (26, aB r12_3.2.2.1)] [0, 1, 2, 7, 16, 17, 18, 19, 20, 22, 23] [k_ 18, (24, some (.box 23 [aI .u8 r12_3.1.Kind, aI .i64 r12_3.1.N, aI .i64 r12_3.1.Re, aI .i64 r12_3.1.Im])), (1007, some (.obj (.any (rep_GHeapHeap r12_3.2.2.2))))] (cB [18, 24] [1007]) (q_ :: q_ :: q_ :: qn (.io ⟨[], [(1007, 900)], [], [], [], [], [(900, 1007)]⟩ (.tup [e_GApiValue r12_3.1, aI .u8 r12_3.2.1, aB r12_3.2.2.1]) [(900, .obj (.any (rep_GHeapHeap r12_3.2.2.2)))]) :: (qz 8 [])) (aC hr12_3 aN) (by kernel_rfl) ?_
 refine W_seq ?_
 refine if_c h (fun hx5 h => ?_) (fun hx5 h => ?_)
 refine if_c h (fun hx6 h => ?_) (fun hx6 h => ?_)
 refine if_c h (fun hx7 h => ?_) (fun hx7 h => ?_)
 refine if_c h (fun hx8 h => ?_) (fun hx8 h => ?_)
 refine ib_c h (fun hx9 h => ?_) (fun hx9 h => ?_)
 refine ib_c h (fun hx10 h => ?_) (fun hx10 h => ?_)
 refine ib_c h (fun hx11 h => ?_) (fun hx11 h => ?_)
 refine W_z mixed [(137, aB (!r12_3.2.2.1))] [0, 1, 2, 7, 18, 24] [k_ 18, k_ 24, k_ 1007] (cB [18, 24] [1007]) [q_, q_, q_, qf0, qf0, qn (.dec false), q_, qf0, qf0, qn (.dec false), q_, qf0, qf0, qn (.dec false), q_, qf0, qf0, qn (.dec false), q_, qf0, qf0, qn (.dec false), q_, qf0, qf0, qn (.dec false), q_, qf0, qf0, qn (.dec false)] (aC (not_t hx5) (aC (not_t hx5) (aC (not_t hx5) (aC (not_t hx6) (aC (not_t hx6) (aC (not_t hx6) (aC (not_t hx7) (aC (not_t hx7) (aC (not_t hx7) (aC (not_t hx8) (aC (not_t hx8) (aC (not_t hx8) (aC (not_t hx9) (aC (not_t hx9) (aC (not_t hx9) (aC (not_t hx10) (aC (not_t hx10) (aC (not_t hx10) (aC (not_t hx11) (aC (not_t hx11) (aC (not_t hx11) aN))))))))))))))))))))) (by kernel_rfl) ?_
 refine W_cbn h (by kernel_rfl) (fun hx12 h => ?_) (fun hx12 h => ?_)
 refine W_skip ?_
 obtain ⟨r15_2, hr15_2, h⟩ := bind_ok h
 have hr15_2 := xheap_Heap_Text_ok hr15_2
 refine W_z mixed [(27, aS r15_2.1), (28, aB r15_2.2)] [0, 1, 2, 7, 18, 24] [k_ 18, k_ 24, k_ 1007] (cB [18, 24] [1007]) [q_, q_, qn (.io ⟨[], [(1007, 900)], [], [], [], [], [(900, 1007)]⟩ (.tup [aS r15_2.1, aB r15_2.2]) [(900, .obj (.any (rep_GHeapHeap r12_3.2.2.2)))]), q_, q_, q_, q_, q_] (aC hr15_2 aN) (by kernel_rfl) ?_
 obtain ⟨r16_2, hr16_2, h⟩ := bind_ok h
 have hr16_2 := xheap_Heap_Text_ok hr16_2
 refine W_z mixed [(29, aS r16_2.1), (30, aB r16_2.2)] [0, 1, 2, 7, 18, 27, 28] [k_ 18, k_ 1007] (cB [18] [1007]) [q_, q_, qn (.io ⟨[], [(1007, 900)], [], [], [], [], [(900, 1007)]⟩ (.tup [aS r16_2.1, aB r16_2.2]) [(900, .obj (.any (rep_GHeapHeap r12_3.2.2.2)))]), q_, q_, q_, q_, q_] (aC hr16_2 aN) (by kernel_rfl) ?_
 obtain ⟨rn17_3, hrn17_3, h⟩ := bind_ok h
 have hrn17_3 := oper_Built_n_ok hrn17_3
 refine W_z mixed [(31, .ptr 31 0), (32, aI .u8 rn17_3.2.1), (33, aB rn17_3.2.2.1)] [0, 1, 2, 27, 28, 29, 30] [(31, some (.box 23 [aI .u8 rn17_3.1.Kind, aI .i64 rn17_3.1.N, aI .i64 rn17_3.1.Re, aI .i64 rn17_3.1.Im]))] (cB [31] []) (q_ :: q_ :: q_ :: (none, [153], .io ⟨[], [(1007, 900)], [], [], [], [], [(900, 1007)]⟩ (.tup [e_GApiValue rn17_3.1, aI .u8 rn17_3.2.1, aB rn17_3.2.2.1]) [(900, .obj (.any (rep_GHeapHeap rn17_3.2.2.2)))]) :: (qz 8 [])) (aC hrn17_3 aN) (by kernel_rfl) ?_
 refine ib_c h (fun hx13 h => ?_) (fun hx13 h => ?_)
 refine ib_c h (fun hx14 h => ?_) (fun hx14 h => ?_)
 obtain ⟨hd15, h⟩ := ite_ok h
 obtain ⟨hd16, h⟩ := ite_ok h
 refine if_c h (fun hx17 h => ?_) (fun hx17 h => ?_)
 refine if_c h (fun hx18 h => ?_) (fun hx18 h => ?_)
 refine ib_c h (fun hx19 h => ?_) (fun hx19 h => ?_)
 refine if_c h (fun hx20 h => ?_) (fun hx20 h => ?_)
 refine if_c h (fun hx21 h => ?_) (fun hx21 h => ?_)
 obtain ⟨r18_33, hr18_33, h⟩ := bind_ok h
 have hr18_33 := hindcastlaw13_awake_ok hr18_33
 refine W_z mixed [(6, aB r18_33)] [] [] c0 [q_, q_, qt0, qn (.dec true), q_, qt0, qt0, qt0, qt (.val (.string (mkS (a0 ++ a1)))), qt0, qt (.val (.string (mkS ((a0 ++ a1) ++ a2)))), qt (.val (.bool (decide (r15_2.1 = ((a0 ++ a1) ++ a2))))), qn (.dec true), q_, qt0, qt0, qt (.val (.bool (decide (r16_2.1 = r15_2.1)))), qn (.dec true), q_, qt0, qn (.dec true), q_, qt0, qt0, qn (.dec true), q_, qt0, qt0, qt0, qt0, qt0, qn (.dec true), q_, qt (.call [] (aB r18_33)), qn (.dec true), q_] (aC hx13 (aC hx13 (aC hx14 (aC hx14 (aC hx14 (aC hx14 (aC (show BinOb Try.prog .add 9 (.string (mkS a0)) (.string (mkS a1)) (.string (mkS (a0 ++ a1))) from cat_ob _ hd15) (aC hx14 (aC hx14 (aC (show BinOb Try.prog .add 9 (.string (mkS (a0 ++ a1))) (.string (mkS a2)) (.string (mkS ((a0 ++ a1) ++ a2))) from cat_ob _ hd16) (aC hx14 (aC (str_eq_ob (P := Try.prog) 9 r15_2.1 ((a0 ++ a1) ++ a2)) (aC hx14 (aC hx17 (aC hx17 (aC hx17 (aC (str_eq_ob (P := Try.prog) 9 r16_2.1 r15_2.1) (aC hx17 (aC hx18 (aC hx18 (aC hx19 (aC hx19 (aC hx19 (aC hx20 (aC hx20 (aC hx20 (aC hx20 (aC hx20 (aC hx20 (aC hx21 (aC hr18_33 (aC hx21 aN)))))))))))))))))))))))))))))))) (by kernel_rfl) ?_
 refine W_ret ?_
 exact kr [] _ _ (by kernel_rfl) (oinj h)
 refine W_z mixed [(6, aB false)] [] [] c0 [q_, q_, qt0, qn (.dec true), q_, qt0, qt0, qt0, qt (.val (.string (mkS (a0 ++ a1)))), qt0, qt (.val (.string (mkS ((a0 ++ a1) ++ a2)))), qt (.val (.bool (decide (r15_2.1 = ((a0 ++ a1) ++ a2))))), qn (.dec true), q_, qt0, qt0, qt (.val (.bool (decide (r16_2.1 = r15_2.1)))), qn (.dec true), q_, qt0, qn (.dec true), q_, qt0, qt0, qn (.dec true), q_, qt0, qt0, qt0, qt0, qt0, qn (.dec true), q_, qf0, qn (.dec false), q_] (aC hx13 (aC hx13 (aC hx14 (aC hx14 (aC hx14 (aC hx14 (aC (show BinOb Try.prog .add 9 (.string (mkS a0)) (.string (mkS a1)) (.string (mkS (a0 ++ a1))) from cat_ob _ hd15) (aC hx14 (aC hx14 (aC (show BinOb Try.prog .add 9 (.string (mkS (a0 ++ a1))) (.string (mkS a2)) (.string (mkS ((a0 ++ a1) ++ a2))) from cat_ob _ hd16) (aC hx14 (aC (str_eq_ob (P := Try.prog) 9 r15_2.1 ((a0 ++ a1) ++ a2)) (aC hx14 (aC hx17 (aC hx17 (aC hx17 (aC (str_eq_ob (P := Try.prog) 9 r16_2.1 r15_2.1) (aC hx17 (aC hx18 (aC hx18 (aC hx19 (aC hx19 (aC hx19 (aC hx20 (aC hx20 (aC hx20 (aC hx20 (aC hx20 (aC hx20 (aC hx21 (aC hx21 aN))))))))))))))))))))))))))))))) (by kernel_rfl) ?_
 refine W_ret ?_
 exact kr [] _ _ (by kernel_rfl) (oinj h)
 refine W_z mixed [(6, aB false)] [] [] c0 [q_, q_, qt0, qn (.dec true), q_, qt0, qt0, qt0, qt (.val (.string (mkS (a0 ++ a1)))), qt0, qt (.val (.string (mkS ((a0 ++ a1) ++ a2)))), qt (.val (.bool (decide (r15_2.1 = ((a0 ++ a1) ++ a2))))), qn (.dec true), q_, qt0, qt0, qt (.val (.bool (decide (r16_2.1 = r15_2.1)))), qn (.dec true), q_, qt0, qn (.dec true), q_, qt0, qt0, qn (.dec true), q_, qf0, qf0, qf0, qf0, qf0, qn (.dec false), q_, q_, q_, q_] (aC hx13 (aC hx13 (aC hx14 (aC hx14 (aC hx14 (aC hx14 (aC (show BinOb Try.prog .add 9 (.string (mkS a0)) (.string (mkS a1)) (.string (mkS (a0 ++ a1))) from cat_ob _ hd15) (aC hx14 (aC hx14 (aC (show BinOb Try.prog .add 9 (.string (mkS (a0 ++ a1))) (.string (mkS a2)) (.string (mkS ((a0 ++ a1) ++ a2))) from cat_ob _ hd16) (aC hx14 (aC (str_eq_ob (P := Try.prog) 9 r15_2.1 ((a0 ++ a1) ++ a2)) (aC hx14 (aC hx17 (aC hx17 (aC hx17 (aC (str_eq_ob (P := Try.prog) 9 r16_2.1 r15_2.1) (aC hx17 (aC hx18 (aC hx18 (aC hx19 (aC hx19 (aC hx19 (aC hx20 (aC hx20 (aC hx20 (aC hx20 (aC hx20 (aC hx20 aN))))))))))))))))))))))))))))) (by kernel_rfl) ?_
 refine W_ret ?_
 exact kr [] _ _ (by kernel_rfl) (oinj h)
 refine W_z mixed [(6, aB false)] [] [] c0 (q_ :: q_ :: qt0 :: qn (.dec true) :: q_ :: qt0 :: qt0 :: qt0 :: qt (.val (.string (mkS (a0 ++ a1)))) :: qt0 :: qt (.val (.string (mkS ((a0 ++ a1) ++ a2)))) :: qt (.val (.bool (decide (r15_2.1 = ((a0 ++ a1) ++ a2))))) :: qn (.dec true) :: q_ :: qt0 :: qt0 :: qt (.val (.bool (decide (r16_2.1 = r15_2.1)))) :: qn (.dec true) :: q_ :: qt0 :: qn (.dec true) :: q_ :: qf0 :: qf0 :: qn (.dec false) :: (qz 11 [])) (aC hx13 (aC hx13 (aC hx14 (aC hx14 (aC hx14 (aC hx14 (aC (show BinOb Try.prog .add 9 (.string (mkS a0)) (.string (mkS a1)) (.string (mkS (a0 ++ a1))) from cat_ob _ hd15) (aC hx14 (aC hx14 (aC (show BinOb Try.prog .add 9 (.string (mkS (a0 ++ a1))) (.string (mkS a2)) (.string (mkS ((a0 ++ a1) ++ a2))) from cat_ob _ hd16) (aC hx14 (aC (str_eq_ob (P := Try.prog) 9 r15_2.1 ((a0 ++ a1) ++ a2)) (aC hx14 (aC hx17 (aC hx17 (aC hx17 (aC (str_eq_ob (P := Try.prog) 9 r16_2.1 r15_2.1) (aC hx17 (aC hx18 (aC hx18 (aC hx19 (aC hx19 (aC hx19 aN))))))))))))))))))))))) (by kernel_rfl) ?_
 refine W_ret ?_
 exact kr [] _ _ (by kernel_rfl) (oinj h)
 refine W_z mixed [(6, aB false)] [] [] c0 (q_ :: q_ :: qt0 :: qn (.dec true) :: q_ :: qt0 :: qt0 :: qt0 :: qt (.val (.string (mkS (a0 ++ a1)))) :: qt0 :: qt (.val (.string (mkS ((a0 ++ a1) ++ a2)))) :: qt (.val (.bool (decide (r15_2.1 = ((a0 ++ a1) ++ a2))))) :: qn (.dec true) :: q_ :: qt0 :: qt0 :: qt (.val (.bool (decide (r16_2.1 = r15_2.1)))) :: qn (.dec true) :: q_ :: qf0 :: qn (.dec false) :: (qz 15 [])) (aC hx13 (aC hx13 (aC hx14 (aC hx14 (aC hx14 (aC hx14 (aC (show BinOb Try.prog .add 9 (.string (mkS a0)) (.string (mkS a1)) (.string (mkS (a0 ++ a1))) from cat_ob _ hd15) (aC hx14 (aC hx14 (aC (show BinOb Try.prog .add 9 (.string (mkS (a0 ++ a1))) (.string (mkS a2)) (.string (mkS ((a0 ++ a1) ++ a2))) from cat_ob _ hd16) (aC hx14 (aC (str_eq_ob (P := Try.prog) 9 r15_2.1 ((a0 ++ a1) ++ a2)) (aC hx14 (aC hx17 (aC hx17 (aC hx17 (aC (str_eq_ob (P := Try.prog) 9 r16_2.1 r15_2.1) (aC hx17 (aC hx18 (aC hx18 aN)))))))))))))))))))) (by kernel_rfl) ?_
 refine W_ret ?_
 exact kr [] _ _ (by kernel_rfl) (oinj h)
 refine W_z mixed [(6, aB false)] [] [] c0 (q_ :: q_ :: qt0 :: qn (.dec true) :: q_ :: qt0 :: qt0 :: qt0 :: qt (.val (.string (mkS (a0 ++ a1)))) :: qt0 :: qt (.val (.string (mkS ((a0 ++ a1) ++ a2)))) :: qt (.val (.bool (decide (r15_2.1 = ((a0 ++ a1) ++ a2))))) :: qn (.dec true) :: q_ :: qf0 :: qf0 :: qf0 :: qn (.dec false) :: (qz 18 [])) (aC hx13 (aC hx13 (aC hx14 (aC hx14 (aC hx14 (aC hx14 (aC (show BinOb Try.prog .add 9 (.string (mkS a0)) (.string (mkS a1)) (.string (mkS (a0 ++ a1))) from cat_ob _ hd15) (aC hx14 (aC hx14 (aC (show BinOb Try.prog .add 9 (.string (mkS (a0 ++ a1))) (.string (mkS a2)) (.string (mkS ((a0 ++ a1) ++ a2))) from cat_ob _ hd16) (aC hx14 (aC (str_eq_ob (P := Try.prog) 9 r15_2.1 ((a0 ++ a1) ++ a2)) (aC hx14 (aC hx17 (aC hx17 (aC hx17 (aC hx17 aN))))))))))))))))) (by kernel_rfl) ?_
 refine W_ret ?_
 exact kr [] _ _ (by kernel_rfl) (oinj h)
 refine W_z mixed [(6, aB false)] [] [] c0 (q_ :: q_ :: qt0 :: qn (.dec true) :: q_ :: qf0 :: qf0 :: qf0 :: qf0 :: qf0 :: qf0 :: qf0 :: qn (.dec false) :: (qz 23 [])) (aC hx13 (aC hx13 (aC hx14 (aC hx14 (aC hx14 (aC hx14 (aC hx14 (aC hx14 (aC hx14 (aC hx14 aN)))))))))) (by kernel_rfl) ?_
 refine W_ret ?_
 exact kr [] _ _ (by kernel_rfl) (oinj h)
 refine W_z mixed [(6, aB false)] [] [] c0 (q_ :: q_ :: qf0 :: qn (.dec false) :: (qz 32 [])) (aC hx13 (aC hx13 aN)) (by kernel_rfl) ?_
 refine W_ret ?_
 exact kr [] _ _ (by kernel_rfl) (oinj h)
 refine W_z mixed [(6, aB false)] [] [] c0 [q_] aN (by kernel_rfl) ?_
 refine W_ret ?_
 exact kr [] _ _ (by kernel_rfl) (oinj h)
 refine W_z mixed [(137, aB true)] [0, 1, 2, 7, 18, 24] [k_ 18, k_ 24, k_ 1007] (cB [18, 24] [1007]) [q_, q_, q_, qf0, qf0, qn (.dec false), q_, qf0, qf0, qn (.dec false), q_, qf0, qf0, qn (.dec false), q_, qf0, qf0, qn (.dec false), q_, qf0, qf0, qn (.dec false), q_, qf0, qf0, qn (.dec false), q_, qt0, qt0, qn (.dec true)] (aC (not_t hx5) (aC (not_t hx5) (aC (not_t hx5) (aC (not_t hx6) (aC (not_t hx6) (aC (not_t hx6) (aC (not_t hx7) (aC (not_t hx7) (aC (not_t hx7) (aC (not_t hx8) (aC (not_t hx8) (aC (not_t hx8) (aC (not_t hx9) (aC (not_t hx9) (aC (not_t hx9) (aC (not_t hx10) (aC (not_t hx10) (aC (not_t hx10) (aC (not_f hx11) (aC (not_f hx11) (aC (not_f hx11) aN))))))))))))))))))))) (by kernel_rfl) ?_
 refine W_ct (e := true) rfl (by kernel_rfl) ?_
 refine W_z mixed [(6, aB false)] [] [] c0 [q_] aN (by kernel_rfl) ?_
 refine W_ret ?_
 exact kr [] _ _ (by kernel_rfl) (oinj h)
 refine W_z mixed [(137, aB true)] [0, 1, 2, 7, 18, 24] [k_ 18, k_ 24, k_ 1007] (cB [18, 24] [1007]) [q_, q_, q_, qf0, qf0, qn (.dec false), q_, qf0, qf0, qn (.dec false), q_, qf0, qf0, qn (.dec false), q_, qf0, qf0, qn (.dec false), q_, qf0, qf0, qn (.dec false), q_, qt0, qt0, qn (.dec true), q_, q_, q_, q_] (aC (not_t hx5) (aC (not_t hx5) (aC (not_t hx5) (aC (not_t hx6) (aC (not_t hx6) (aC (not_t hx6) (aC (not_t hx7) (aC (not_t hx7) (aC (not_t hx7) (aC (not_t hx8) (aC (not_t hx8) (aC (not_t hx8) (aC (not_t hx9) (aC (not_t hx9) (aC (not_t hx9) (aC (not_f hx10) (aC (not_f hx10) (aC (not_f hx10) aN)))))))))))))))))) (by kernel_rfl) ?_
 refine W_ct (e := true) rfl (by kernel_rfl) ?_
 refine W_z mixed [(6, aB false)] [] [] c0 [q_] aN (by kernel_rfl) ?_
 refine W_ret ?_
 exact kr [] _ _ (by kernel_rfl) (oinj h)
 refine W_z mixed [(137, aB true)] [0, 1, 2, 7, 18, 24] [k_ 18, k_ 24, k_ 1007] (cB [18, 24] [1007]) (q_ :: q_ :: q_ :: qf0 :: qf0 :: qn (.dec false) :: q_ :: qf0 :: qf0 :: qn (.dec false) :: q_ :: qf0 :: qf0 :: qn (.dec false) :: q_ :: qf0 :: qf0 :: qn (.dec false) :: q_ :: qt0 :: qt0 :: qn (.dec true) :: (qz 8 [])) (aC (not_t hx5) (aC (not_t hx5) (aC (not_t hx5) (aC (not_t hx6) (aC (not_t hx6) (aC (not_t hx6) (aC (not_t hx7) (aC (not_t hx7) (aC (not_t hx7) (aC (not_t hx8) (aC (not_t hx8) (aC (not_t hx8) (aC (not_f hx9) (aC (not_f hx9) (aC (not_f hx9) aN))))))))))))))) (by kernel_rfl) ?_
 refine W_ct (e := true) rfl (by kernel_rfl) ?_
 refine W_z mixed [(6, aB false)] [] [] c0 [q_] aN (by kernel_rfl) ?_
 refine W_ret ?_
 exact kr [] _ _ (by kernel_rfl) (oinj h)
 refine W_z mixed [(137, aB true)] [0, 1, 2, 7, 18, 24] [k_ 18, k_ 24, k_ 1007] (cB [18, 24] [1007]) (q_ :: q_ :: q_ :: qf0 :: qf0 :: qn (.dec false) :: q_ :: qf0 :: qf0 :: qn (.dec false) :: q_ :: qf0 :: qf0 :: qn (.dec false) :: q_ :: qt0 :: qt0 :: qn (.dec true) :: (qz 12 [])) (aC (not_t hx5) (aC (not_t hx5) (aC (not_t hx5) (aC (not_t hx6) (aC (not_t hx6) (aC (not_t hx6) (aC (not_t hx7) (aC (not_t hx7) (aC (not_t hx7) (aC (not_f hx8) (aC (not_f hx8) (aC (not_f hx8) aN)))))))))))) (by kernel_rfl) ?_
 refine W_ct (e := true) rfl (by kernel_rfl) ?_
 refine W_z mixed [(6, aB false)] [] [] c0 [q_] aN (by kernel_rfl) ?_
 refine W_ret ?_
 exact kr [] _ _ (by kernel_rfl) (oinj h)
 refine W_z mixed [(137, aB true)] [0, 1, 2, 7, 18, 24] [k_ 18, k_ 24, k_ 1007] (cB [18, 24] [1007]) (q_ :: q_ :: q_ :: qf0 :: qf0 :: qn (.dec false) :: q_ :: qf0 :: qf0 :: qn (.dec false) :: q_ :: qt0 :: qt0 :: qn (.dec true) :: (qz 16 [])) (aC (not_t hx5) (aC (not_t hx5) (aC (not_t hx5) (aC (not_t hx6) (aC (not_t hx6) (aC (not_t hx6) (aC (not_f hx7) (aC (not_f hx7) (aC (not_f hx7) aN))))))))) (by kernel_rfl) ?_
 refine W_ct (e := true) rfl (by kernel_rfl) ?_
 refine W_z mixed [(6, aB false)] [] [] c0 [q_] aN (by kernel_rfl) ?_
 refine W_ret ?_
 exact kr [] _ _ (by kernel_rfl) (oinj h)
 refine W_z mixed [(137, aB true)] [0, 1, 2, 7, 18, 24] [k_ 18, k_ 24, k_ 1007] (cB [18, 24] [1007]) (q_ :: q_ :: q_ :: qf0 :: qf0 :: qn (.dec false) :: q_ :: qt0 :: qt0 :: qn (.dec true) :: (qz 20 [])) (aC (not_t hx5) (aC (not_t hx5) (aC (not_t hx5) (aC (not_f hx6) (aC (not_f hx6) (aC (not_f hx6) aN)))))) (by kernel_rfl) ?_
 refine W_ct (e := true) rfl (by kernel_rfl) ?_
 refine W_z mixed [(6, aB false)] [] [] c0 [q_] aN (by kernel_rfl) ?_
 refine W_ret ?_
 exact kr [] _ _ (by kernel_rfl) (oinj h)
 refine W_z mixed [(137, aB true)] [0, 1, 2, 7, 18, 24] [k_ 18, k_ 24, k_ 1007] (cB [18, 24] [1007]) (q_ :: q_ :: q_ :: qt0 :: qt0 :: qn (.dec true) :: (qz 24 [])) (aC (not_f hx5) (aC (not_f hx5) (aC (not_f hx5) aN))) (by kernel_rfl) ?_
 refine W_ct (e := true) rfl (by kernel_rfl) ?_
 refine W_z mixed [(6, aB false)] [] [] c0 [q_] aN (by kernel_rfl) ?_
 refine W_ret ?_
 exact kr [] _ _ (by kernel_rfl) (oinj h)
 refine W_z mixed [(6, aB false)] [] [] c0 [q_] aN (by kernel_rfl) ?_
 refine W_ret ?_
 exact kr [] _ _ (by kernel_rfl) (oinj h)
end Go.Proofs.Ytmffhifkdbfbfaa
