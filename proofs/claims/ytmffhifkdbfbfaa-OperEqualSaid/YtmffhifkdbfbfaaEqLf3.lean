/- Parts of the proof. -/
import Derived.Test.YtmffhifkdbfbfaaEqLf2
namespace Go.Proofs.Ytmffhifkdbfbfaa
open Go.RowKit
set_option linter.unusedVariables false
set_option maxHeartbeats 4000000
def R_hindcastlaw13_OperEqual (a0 : (List GApiObj)) (a1 : GApiValue) (a2 : GApiValue) (a3 : GApiValue) (r : Bool) : Prop := FnP Try.prog 5 [.t (.sl 4 (a0.map c_GApiObj)), e_GApiValue a1, e_GApiValue a2, e_GApiValue a3] (aB r)
abbrev hindcastlaw13_OperEqual_e (x : Bool) : A := (aB x)
noncomputable def hindcastlaw13_OperEqual_j0  : Option Bool :=
  ((hindcastlaw13_awake).bind fun (r3_0 : Bool) => (some r3_0))
noncomputable def hindcastlaw13_OperEqual_j1 (r4_3 : (GApiValue × Int × Bool × GHeapHeap)) (r6_3 : (GApiValue × Int × Bool × GHeapHeap)) (r7_3 : (GApiValue × Int × Bool × GHeapHeap)) : Option Bool :=
  (if r4_3.2.2.1 = true then (if r6_3.2.2.1 = true then (if r4_3.1.N = 0 then ((hindcastlaw13_awake).bind fun (r13_25 : Bool) => (some r13_25)) else (if r6_3.1.N = 0 then ((hindcastlaw13_awake).bind fun (r13_25 : Bool) => (some r13_25)) else (if r7_3.2.2.1 = true then (if r7_3.1.N = 1 then ((hindcastlaw13_awake).bind fun (r13_25 : Bool) => (some r13_25)) else (some false)) else (some false)))) else ((hindcastlaw13_awake).bind fun (r13_25 : Bool) => (some r13_25))) else ((hindcastlaw13_awake).bind fun (r13_25 : Bool) => (some r13_25)))
def hindcastlaw13_OperEqual_j0_s  : LS := LS.mk 164 [] []
def hindcastlaw13_OperEqual_j1_s (r4_3 : (GApiValue × Int × Bool × GHeapHeap)) (r6_3 : (GApiValue × Int × Bool × GHeapHeap)) (r7_3 : (GApiValue × Int × Bool × GHeapHeap)) : LS := LS.mk 164 [(12, .ptr 12 0), (14, aB r4_3.2.2.1), (18, .ptr 18 0), (20, aB r6_3.2.2.1), (21, .ptr 21 0), (23, aB r7_3.2.2.1)] [(12, some (.box 23 [aI .u8 r4_3.1.Kind, aI .i64 r4_3.1.N, aI .i64 r4_3.1.Re, aI .i64 r4_3.1.Im])), (18, some (.box 23 [aI .u8 r6_3.1.Kind, aI .i64 r6_3.1.N, aI .i64 r6_3.1.Re, aI .i64 r6_3.1.Im])), (21, some (.box 23 [aI .u8 r7_3.1.Kind, aI .i64 r7_3.1.N, aI .i64 r7_3.1.Re, aI .i64 r7_3.1.Im]))]
set_option maxRecDepth 100000 in
theorem hindcastlaw13_OperEqual_j0_ok  (r_ : Bool) (Q' : Exit → St → Prop) (kr : KR Try.prog 5 hindcastlaw13_OperEqual_e r_ .ret Q')  (h : hindcastlaw13_OperEqual_j0  = some r_) : W Try.prog (subC (bodyC Try.prog 5) [1, 1, 0, 1, 0]) (hindcastlaw13_OperEqual_j0_s ).st Q' := by
 unfold hindcastlaw13_OperEqual_j0 at h
 obtain ⟨r3_0, hr3_0, h⟩ := bind_ok h
 have hr3_0 := hindcastlaw13_awake_ok hr3_0
 refine W_z mixed [(8, aB r3_0)] [] [] c0 [qn (.call [] (aB r3_0)), q_] (aC hr3_0 aN) (by kernel_rfl) ?_
 refine W_ret ?_
 exact kr [] _ _ (by kernel_rfl) (oinj h)
set_option maxRecDepth 100000 in
theorem hindcastlaw13_OperEqual_j1_ok (r4_3 : (GApiValue × Int × Bool × GHeapHeap)) (r6_3 : (GApiValue × Int × Bool × GHeapHeap)) (r7_3 : (GApiValue × Int × Bool × GHeapHeap)) (r_ : Bool) (Q' : Exit → St → Prop) (kr : KR Try.prog 5 hindcastlaw13_OperEqual_e r_ .ret Q')  (h : hindcastlaw13_OperEqual_j1 r4_3 r6_3 r7_3 = some r_) : W Try.prog (subC (bodyC Try.prog 5) [1, 1, 1, 1, 1, 1, 1, 1, 1, 1, 1]) (hindcastlaw13_OperEqual_j1_s r4_3 r6_3 r7_3).st Q' := by
 unfold hindcastlaw13_OperEqual_j1 at h
 refine ib_c h (fun hx2001 h => ?_) (fun hx2001 h => ?_)
 refine ib_c h (fun hx2002 h => ?_) (fun hx2002 h => ?_)
 refine if_c h (fun hx2003 h => ?_) (fun hx2003 h => ?_)
 obtain ⟨r13_25, hr13_25, h⟩ := bind_ok h
 have hr13_25 := hindcastlaw13_awake_ok hr13_25
 refine W_z mixed [(8, aB r13_25)] [] [] c0 (q_ :: q_ :: q_ :: qf0 :: qf0 :: qn (.dec false) :: q_ :: qf0 :: qf0 :: qf0 :: qn (.dec false) :: q_ :: qt0 :: qt0 :: qt0 :: qn (.dec true) :: (qz 9 [qn (.call [] (aB r13_25)), q_, q_])) (aC (not_t hx2001) (aC (not_t hx2001) (aC (not_t hx2001) (aC (not_t hx2002) (aC (not_t hx2002) (aC (not_t hx2002) (aC (not_t hx2002) (aC hx2003 (aC hx2003 (aC hx2003 (aC hx2003 (aC hr13_25 aN)))))))))))) (by kernel_rfl) ?_
 refine W_ret ?_
 exact kr [] _ _ (by kernel_rfl) (oinj h)
 refine if_c h (fun hx2004 h => ?_) (fun hx2004 h => ?_)
 obtain ⟨r13_25, hr13_25, h⟩ := bind_ok h
 have hr13_25 := hindcastlaw13_awake_ok hr13_25
 refine W_z mixed [(8, aB r13_25)] [] [] c0 [q_, q_, q_, qf0, qf0, qn (.dec false), q_, qf0, qf0, qf0, qn (.dec false), q_, qf0, qf0, qf0, qn (.dec false), q_, qt0, qt0, q_, q_, q_, qt0, qn (.dec true), q_, qn (.call [] (aB r13_25)), q_, q_] (aC (not_t hx2001) (aC (not_t hx2001) (aC (not_t hx2001) (aC (not_t hx2002) (aC (not_t hx2002) (aC (not_t hx2002) (aC (not_t hx2002) (aC hx2003 (aC hx2003 (aC hx2003 (aC hx2003 (aC hx2004 (aC hx2004 (aC hx2004 (aC hx2004 (aC hr13_25 aN)))))))))))))))) (by kernel_rfl) ?_
 refine W_ret ?_
 exact kr [] _ _ (by kernel_rfl) (oinj h)
 refine ib_c h (fun hx2005 h => ?_) (fun hx2005 h => ?_)
 refine if_c h (fun hx2006 h => ?_) (fun hx2006 h => ?_)
 obtain ⟨r13_25, hr13_25, h⟩ := bind_ok h
 have hr13_25 := hindcastlaw13_awake_ok hr13_25
 refine W_z mixed [(8, aB r13_25)] [] [] c0 [q_, q_, q_, qf0, qf0, qn (.dec false), q_, qf0, qf0, qf0, qn (.dec false), q_, qf0, qf0, qf0, qn (.dec false), q_, qf0, qf0, qt0, qt0, qt0, qf (.dec true), qn (.dec false), q_, qt (.call [] (aB r13_25)), qn (.dec true), q_] (aC (not_t hx2001) (aC (not_t hx2001) (aC (not_t hx2001) (aC (not_t hx2002) (aC (not_t hx2002) (aC (not_t hx2002) (aC (not_t hx2002) (aC hx2003 (aC hx2003 (aC hx2003 (aC hx2003 (aC hx2004 (aC hx2004 (aC hx2005 (aC hx2005 (aC hx2005 (aC hx2004 (aC hx2005 (aC hx2004 (aC hx2006 (aC hr13_25 (aC hx2006 aN)))))))))))))))))))))) (by kernel_rfl) ?_
 refine W_ret ?_
 exact kr [] _ _ (by kernel_rfl) (oinj h)
 refine W_z mixed [(8, aB false)] [] [] c0 [q_, q_, q_, qf0, qf0, qn (.dec false), q_, qf0, qf0, qf0, qn (.dec false), q_, qf0, qf0, qf0, qn (.dec false), q_, qf0, qf0, qt0, qt0, qt0, qf (.dec true), qn (.dec false), q_, qf0, qn (.dec false), q_] (aC (not_t hx2001) (aC (not_t hx2001) (aC (not_t hx2001) (aC (not_t hx2002) (aC (not_t hx2002) (aC (not_t hx2002) (aC (not_t hx2002) (aC hx2003 (aC hx2003 (aC hx2003 (aC hx2003 (aC hx2004 (aC hx2004 (aC hx2005 (aC hx2005 (aC hx2005 (aC hx2004 (aC hx2005 (aC hx2004 (aC hx2006 (aC hx2006 aN))))))))))))))))))))) (by kernel_rfl) ?_
 refine W_ret ?_
 exact kr [] _ _ (by kernel_rfl) (oinj h)
 refine W_z mixed [(8, aB false)] [] [] c0 [q_, q_, q_, qf0, qf0, qn (.dec false), q_, qf0, qf0, qf0, qn (.dec false), q_, qf0, qf0, qf0, qn (.dec false), q_, qf0, qf0, qf0, qf0, qf0, qf (.dec false), qn (.dec false), q_, q_, q_, q_] (aC (not_t hx2001) (aC (not_t hx2001) (aC (not_t hx2001) (aC (not_t hx2002) (aC (not_t hx2002) (aC (not_t hx2002) (aC (not_t hx2002) (aC hx2003 (aC hx2003 (aC hx2003 (aC hx2003 (aC hx2004 (aC hx2004 (aC hx2005 (aC hx2005 (aC hx2005 (aC hx2004 (aC hx2005 (aC hx2004 aN))))))))))))))))))) (by kernel_rfl) ?_
 refine W_ret ?_
 exact kr [] _ _ (by kernel_rfl) (oinj h)
 obtain ⟨r13_25, hr13_25, h⟩ := bind_ok h
 have hr13_25 := hindcastlaw13_awake_ok hr13_25
 refine W_z mixed [(8, aB r13_25)] [] [] c0 (q_ :: q_ :: q_ :: qf0 :: qf0 :: qn (.dec false) :: q_ :: qt0 :: qt0 :: qt0 :: qn (.dec true) :: (qz 14 [qn (.call [] (aB r13_25)), q_, q_])) (aC (not_t hx2001) (aC (not_t hx2001) (aC (not_t hx2001) (aC (not_f hx2002) (aC (not_f hx2002) (aC (not_f hx2002) (aC (not_f hx2002) (aC hr13_25 aN)))))))) (by kernel_rfl) ?_
 refine W_ret ?_
 exact kr [] _ _ (by kernel_rfl) (oinj h)
 obtain ⟨r13_25, hr13_25, h⟩ := bind_ok h
 have hr13_25 := hindcastlaw13_awake_ok hr13_25
 refine W_z mixed [(8, aB r13_25)] [] [] c0 (q_ :: q_ :: q_ :: qt0 :: qt0 :: qn (.dec true) :: (qz 19 [qn (.call [] (aB r13_25)), q_, q_])) (aC (not_f hx2001) (aC (not_f hx2001) (aC (not_f hx2001) (aC hr13_25 aN)))) (by kernel_rfl) ?_
 refine W_ret ?_
 exact kr [] _ _ (by kernel_rfl) (oinj h)
noncomputable def hindcastlaw13_OperEqual (a0 : (List GApiObj)) (a1 : GApiValue) (a2 : GApiValue) (a3 : GApiValue) : Option Bool :=
  ((hindcastlaw13_loaded 65536 a0).bind fun (r1_1 : ((Option GHeapHeap) × GHindcastref13W × Bool)) => optCase r1_1.1 (if r1_1.2.2 = true then none else hindcastlaw13_OperEqual_j0) fun (y1_1 : GHeapHeap) => (if r1_1.2.2 = true then ((oper_Bin y1_1 6 a1 a2).bind fun (r4_3 : (GApiValue × Int × Bool × GHeapHeap)) => ((oper_Bin r4_3.2.2.2 6 a2 a1).bind fun (r5_3 : (GApiValue × Int × Bool × GHeapHeap)) => ((oper_Bin r5_3.2.2.2 6 a2 a3).bind fun (r6_3 : (GApiValue × Int × Bool × GHeapHeap)) => ((oper_Bin r6_3.2.2.2 6 a1 a3).bind fun (r7_3 : (GApiValue × Int × Bool × GHeapHeap)) => ((oper_Bin r7_3.2.2.2 7 a1 a2).bind fun (r8_3 : (GApiValue × Int × Bool × GHeapHeap)) => ((oper_Bin r8_3.2.2.2 6 a1 a1).bind fun (r9_3 : (GApiValue × Int × Bool × GHeapHeap)) => ((hindcastref13_W_Bin r1_1.2.1 6 a1 a1).bind fun (r10_3 : (GApiValue × Int × Bool × GHindcastref13W)) => (if (r4_3.2.2.1 == r5_3.2.2.1) = true then (if (decide (r4_3.1.Kind = r5_3.1.Kind) && (decide (r4_3.1.N = r5_3.1.N) && (decide (r4_3.1.Re = r5_3.1.Re) && decide (r4_3.1.Im = r5_3.1.Im)))) = true then (if (r4_3.2.2.1 == r8_3.2.2.1) = true then (if r4_3.2.2.1 = true then (if (w64 (r4_3.1.N + r8_3.1.N)) = 1 then (if (r9_3.2.2.1 == r10_3.2.2.1) = true then (if r9_3.2.2.1 = true then (if r9_3.1.N = 1 then hindcastlaw13_OperEqual_j1 r4_3 r6_3 r7_3 else (some false)) else hindcastlaw13_OperEqual_j1 r4_3 r6_3 r7_3) else (some false)) else (some false)) else (if (r9_3.2.2.1 == r10_3.2.2.1) = true then (if r9_3.2.2.1 = true then (if r9_3.1.N = 1 then hindcastlaw13_OperEqual_j1 r4_3 r6_3 r7_3 else (some false)) else hindcastlaw13_OperEqual_j1 r4_3 r6_3 r7_3) else (some false))) else (some false)) else (some false)) else (some false))))))))) else hindcastlaw13_OperEqual_j0))
set_option maxRecDepth 100000 in
theorem hindcastlaw13_OperEqual_ok {a0 : (List GApiObj)} {a1 : GApiValue} {a2 : GApiValue} {a3 : GApiValue} {r_ : Bool} (h : hindcastlaw13_OperEqual a0 a1 a2 a3 = some r_) : R_hindcastlaw13_OperEqual a0 a1 a2 a3 r_ := by
 unfold hindcastlaw13_OperEqual at h
 refine fn_pureZ (enc := hindcastlaw13_OperEqual_e) (by kernel_rfl) fun Q' kr kn => ?_
 refine W_z mixed [(5, .ptr 5 0), (6, .ptr 6 0), (7, .ptr 7 0)] [0] [(5, some (.box 23 [aI .u8 a1.Kind, aI .i64 a1.N, aI .i64 a1.Re, aI .i64 a1.Im])), (6, some (.box 23 [aI .u8 a2.Kind, aI .i64 a2.N, aI .i64 a2.Re, aI .i64 a2.Im])), (7, some (.box 23 [aI .u8 a3.Kind, aI .i64 a3.N, aI .i64 a3.Re, aI .i64 a3.Im]))] (cB [5, 6, 7] []) (qz 4 []) aN (by kernel_rfl) ?_
 obtain ⟨r1_1, hr1_1, h⟩ := bind_ok h
 have hr1_1 := hindcastlaw13_loaded_ok hr1_1
 unfold RI_hindcastlaw13_loaded at hr1_1
 rcases hc_y1_1 : r1_1.1 with _ | y1_1
 rw [hc_y1_1] at hr1_1
 have h := oc_nx hc_y1_1 h
 refine W_z mixed [(9, aPnil), (10, .ptr 10 0), (11, aB r1_1.2.2)] [5, 6, 7] [k_ 5, k_ 6, k_ 7, (10, some (.box 44 [aI .i64 r1_1.2.1.H.Room, aI .i64 r1_1.2.1.H.Cells, .ref 101002, .t (.sl 1 (r1_1.2.1.In.map c_i64)), .t (.sl 1 (r1_1.2.1.Draws.map c_i64)), aI .i64 r1_1.2.1.Read, aI .i64 r1_1.2.1.Drawn])), (101002, some (.row 100 4 (r1_1.2.1.H.L.map c_GApiObj)))] (cG [] [5, 6, 7, 10] [] [(36, 101002)] [] []) (q_ :: qn (.io ⟨[], [], [], [], [], [], [(800102, 36)]⟩ (.tup [aPnil, .agg [aI .i64 r1_1.2.1.H.Room, aI .i64 r1_1.2.1.H.Cells, .ref 800102, .t (.sl 1 (r1_1.2.1.In.map c_i64)), .t (.sl 1 (r1_1.2.1.Draws.map c_i64)), aI .i64 r1_1.2.1.Read, aI .i64 r1_1.2.1.Drawn], aB r1_1.2.2]) [(800102, .row 100 4 (r1_1.2.1.H.L.map c_GApiObj))]) :: (qz 8 [])) (aC hr1_1 aN) (by kernel_rfl) ?_
 refine W_seq ?_
 refine W_z mixed [(41, aB (!r1_1.2.2))] [5, 6, 7, 9, 10] [k_ 5, k_ 6, k_ 7, k_ 10, k_ 101002] (cB [5, 6, 7, 10] [101002]) [q_, q_] aN (by kernel_rfl) ?_
 refine W_cbn h (by kernel_rfl) (fun hx1 h => ?_) (fun hx1 h => ?_)
 refine W_skip ?_
 cases h
 exact W_conv (c0 []) (by kernel_rfl) (hindcastlaw13_OperEqual_j0_ok r_ _ kr h)
 rw [hc_y1_1] at hr1_1
 have h := oc_sx hc_y1_1 h
 refine W_z mixed [(9, .ob 1009), (10, .ptr 10 0), (11, aB r1_1.2.2)] [5, 6, 7] [k_ 5, k_ 6, k_ 7, (10, some (.box 44 [aI .i64 r1_1.2.1.H.Room, aI .i64 r1_1.2.1.H.Cells, .ref 101002, .t (.sl 1 (r1_1.2.1.In.map c_i64)), .t (.sl 1 (r1_1.2.1.Draws.map c_i64)), aI .i64 r1_1.2.1.Read, aI .i64 r1_1.2.1.Drawn])), (101002, some (.row 100 4 (r1_1.2.1.H.L.map c_GApiObj))), (1009, some (.obj (.any (rep_GHeapHeap y1_1))))] (cG [] [5, 6, 7, 10] [] [(36, 101002), (1036000, 1009)] [] []) (q_ :: qn (.io ⟨[], [], [], [], [], [], [(800102, 36), (700000, 1036000)]⟩ (.tup [.ob 700000, .agg [aI .i64 r1_1.2.1.H.Room, aI .i64 r1_1.2.1.H.Cells, .ref 800102, .t (.sl 1 (r1_1.2.1.In.map c_i64)), .t (.sl 1 (r1_1.2.1.Draws.map c_i64)), aI .i64 r1_1.2.1.Read, aI .i64 r1_1.2.1.Drawn], aB r1_1.2.2]) [(700000, .obj (.any (rep_GHeapHeap y1_1))), (800102, .row 100 4 (r1_1.2.1.H.L.map c_GApiObj))]) :: (qz 8 [])) (aC hr1_1 aN) (by kernel_rfl) ?_
 refine W_seq ?_
 refine W_z mixed [(41, aB (!r1_1.2.2))] [5, 6, 7, 9, 10] [k_ 5, k_ 6, k_ 7, k_ 10, k_ 1009, k_ 101002] (cB [5, 6, 7, 10] [1009, 101002]) [q_, q_] aN (by kernel_rfl) ?_
 refine W_cbn h (by kernel_rfl) (fun hx2 h => ?_) (fun hx2 h => ?_)
 refine W_skip ?_
 obtain ⟨r4_3, hr4_3, h⟩ := bind_ok h
 have hr4_3 := oper_Bin_ok hr4_3
 refine W_z mixed [(12, .ptr 12 0), (14, aB r4_3.2.2.1)] [5, 6, 7, 9, 10] [k_ 5, k_ 6, k_ 7, k_ 10, (12, some (.box 23 [aI .u8 r4_3.1.Kind, aI .i64 r4_3.1.N, aI .i64 r4_3.1.Re, aI .i64 r4_3.1.Im])), (1009, some (.obj (.any (rep_GHeapHeap r4_3.2.2.2)))), k_ 101002] (cB [5, 6, 7, 10, 12] [1009, 101002]) (q_ :: q_ :: q_ :: qn (.io ⟨[], [(1009, 900)], [], [], [], [], [(900, 1009)]⟩ (.tup [e_GApiValue r4_3.1, aI .u8 r4_3.2.1, aB r4_3.2.2.1]) [(900, .obj (.any (rep_GHeapHeap r4_3.2.2.2)))]) :: (qz 8 [])) (aC hr4_3 aN) (by kernel_rfl) ?_
 obtain ⟨r5_3, hr5_3, h⟩ := bind_ok h
 have hr5_3 := oper_Bin_ok hr5_3
 refine W_z mixed [(15, .ptr 15 0), (17, aB r5_3.2.2.1)] [5, 6, 7, 9, 10, 12, 14] [k_ 5, k_ 6, k_ 7, k_ 10, k_ 12, (15, some (.box 23 [aI .u8 r5_3.1.Kind, aI .i64 r5_3.1.N, aI .i64 r5_3.1.Re, aI .i64 r5_3.1.Im])), (1009, some (.obj (.any (rep_GHeapHeap r5_3.2.2.2)))), k_ 101002] (cB [5, 6, 7, 10, 12, 15] [1009, 101002]) (q_ :: q_ :: q_ :: qn (.io ⟨[], [(1009, 900)], [], [], [], [], [(900, 1009)]⟩ (.tup [e_GApiValue r5_3.1, aI .u8 r5_3.2.1, aB r5_3.2.2.1]) [(900, .obj (.any (rep_GHeapHeap r5_3.2.2.2)))]) :: (qz 8 [])) (aC hr5_3 aN) (by kernel_rfl) ?_
 obtain ⟨r6_3, hr6_3, h⟩ := bind_ok h
 have hr6_3 := oper_Bin_ok hr6_3
 refine W_z mixed [(18, .ptr 18 0), (20, aB r6_3.2.2.1)] [5, 6, 7, 9, 10, 12, 14, 15, 17] [k_ 5, k_ 6, k_ 7, k_ 10, k_ 12, k_ 15, (18, some (.box 23 [aI .u8 r6_3.1.Kind, aI .i64 r6_3.1.N, aI .i64 r6_3.1.Re, aI .i64 r6_3.1.Im])), (1009, some (.obj (.any (rep_GHeapHeap r6_3.2.2.2)))), k_ 101002] (cB [5, 6, 7, 10, 12, 15, 18] [1009, 101002]) (q_ :: q_ :: q_ :: qn (.io ⟨[], [(1009, 900)], [], [], [], [], [(900, 1009)]⟩ (.tup [e_GApiValue r6_3.1, aI .u8 r6_3.2.1, aB r6_3.2.2.1]) [(900, .obj (.any (rep_GHeapHeap r6_3.2.2.2)))]) :: (qz 8 [])) (aC hr6_3 aN) (by kernel_rfl) ?_
 obtain ⟨r7_3, hr7_3, h⟩ := bind_ok h
 have hr7_3 := oper_Bin_ok hr7_3
 refine W_z mixed [(21, .ptr 21 0), (23, aB r7_3.2.2.1)] [5, 6, 9, 10, 12, 14, 15, 17, 18, 20] [k_ 5, k_ 6, k_ 10, k_ 12, k_ 15, k_ 18, (21, some (.box 23 [aI .u8 r7_3.1.Kind, aI .i64 r7_3.1.N, aI .i64 r7_3.1.Re, aI .i64 r7_3.1.Im])), (1009, some (.obj (.any (rep_GHeapHeap r7_3.2.2.2)))), k_ 101002] (cB [5, 6, 10, 12, 15, 18, 21] [1009, 101002]) (q_ :: q_ :: q_ :: qn (.io ⟨[], [(1009, 900)], [], [], [], [], [(900, 1009)]⟩ (.tup [e_GApiValue r7_3.1, aI .u8 r7_3.2.1, aB r7_3.2.2.1]) [(900, .obj (.any (rep_GHeapHeap r7_3.2.2.2)))]) :: (qz 8 [])) (aC hr7_3 aN) (by kernel_rfl) ?_
 obtain ⟨r8_3, hr8_3, h⟩ := bind_ok h
 have hr8_3 := oper_Bin_ok hr8_3
 refine W_z mixed [(24, .ptr 24 0), (26, aB r8_3.2.2.1)] [5, 9, 10, 12, 14, 15, 17, 18, 20, 21, 23] [k_ 5, k_ 10, k_ 12, k_ 15, k_ 18, k_ 21, (24, some (.box 23 [aI .u8 r8_3.1.Kind, aI .i64 r8_3.1.N, aI .i64 r8_3.1.Re, aI .i64 r8_3.1.Im])), (1009, some (.obj (.any (rep_GHeapHeap r8_3.2.2.2)))), k_ 101002] (cB [5, 10, 12, 15, 18, 21, 24] [1009, 101002]) (q_ :: q_ :: q_ :: qn (.io ⟨[], [(1009, 900)], [], [], [], [], [(900, 1009)]⟩ (.tup [e_GApiValue r8_3.1, aI .u8 r8_3.2.1, aB r8_3.2.2.1]) [(900, .obj (.any (rep_GHeapHeap r8_3.2.2.2)))]) :: (qz 8 [])) (aC hr8_3 aN) (by kernel_rfl) ?_
 obtain ⟨r9_3, hr9_3, h⟩ := bind_ok h
 have hr9_3 := oper_Bin_ok hr9_3
 refine W_z mixed [(27, .ptr 27 0), (29, aB r9_3.2.2.1)] [5, 10, 12, 14, 15, 17, 18, 20, 21, 23, 24, 26] [k_ 5, k_ 10, k_ 12, k_ 15, k_ 18, k_ 21, k_ 24, (27, some (.box 23 [aI .u8 r9_3.1.Kind, aI .i64 r9_3.1.N, aI .i64 r9_3.1.Re, aI .i64 r9_3.1.Im])), k_ 101002] (cB [5, 10, 12, 15, 18, 21, 24, 27] [101002]) (q_ :: q_ :: q_ :: qn (.io ⟨[], [(1009, 900)], [], [], [], [], [(900, 1009)]⟩ (.tup [e_GApiValue r9_3.1, aI .u8 r9_3.2.1, aB r9_3.2.2.1]) [(900, .obj (.any (rep_GHeapHeap r9_3.2.2.2)))]) :: (qz 8 [])) (aC hr9_3 aN) (by kernel_rfl) ?_
 obtain ⟨r10_3, hr10_3, h⟩ := bind_ok h
 have hr10_3 := hindcastref13_W_Bin_ok hr10_3
 refine W_z mixed [(32, aB r10_3.2.2.1)] [12, 14, 15, 17, 18, 20, 21, 23, 24, 26, 27, 29] [k_ 12, k_ 15, k_ 18, k_ 21, k_ 24, k_ 27] (cB [12, 15, 18, 21, 24, 27] []) (q_ :: q_ :: q_ :: (none, [101002], .call [] (.tup [e_GApiValue r10_3.1, aI .i64 r10_3.2.1, aB r10_3.2.2.1, e_GHindcastref13W r10_3.2.2.2])) :: (qz 11 [])) (aC hr10_3 aN) (by kernel_rfl) ?_
 refine W_seq ?_
 refine ib_c h (fun hx3 h => ?_) (fun hx3 h => ?_)
 refine ib_c h (fun hx4 h => ?_) (fun hx4 h => ?_)
 refine ib_c h (fun hx5 h => ?_) (fun hx5 h => ?_)
 refine ib_c h (fun hx6 h => ?_) (fun hx6 h => ?_)
 refine if_c h (fun hx7 h => ?_) (fun hx7 h => ?_)
 refine ib_c h (fun hx8 h => ?_) (fun hx8 h => ?_)
 refine ib_c h (fun hx9 h => ?_) (fun hx9 h => ?_)
 refine W_z mixed [(136, aB (!(decide (r9_3.1.N = 1))))] [12, 14, 18, 20, 21, 23] [k_ 12, k_ 18, k_ 21] (cB [12, 18, 21] []) [q_, q_, q_, q_, qf0, qf0, qf (.quiet (aB (!(decide (r4_3.1.Kind = r5_3.1.Kind) && (decide (r4_3.1.N = r5_3.1.N) && (decide (r4_3.1.Re = r5_3.1.Re) && decide (r4_3.1.Im = r5_3.1.Im))))))), qn (.dec false), q_, qf0, qf0, qf0, qn (.dec false), q_, qf0, qf0, qt0, qt0, qt0, qt0, qt0, qt0, qf (.dec true), qn (.dec false), q_, qf0, qf0, qf0, qn (.dec false), q_, qf0, qf0, qt0, qt0, qt0, qf (.dec true), qn (.dec false)] (aC (not_t hx3) (aC (not_t hx3) (aC (not_t hx3) (aC (show Quiet Try.prog (opAt (subC (bodyC Try.prog 5) [1, 1, 1, 1, 1, 1, 1, 1, 1, 1, 0, 0]) 6) [e_GApiValue r4_3.1, e_GApiValue r5_3.1] (aB (!(decide (r4_3.1.Kind = r5_3.1.Kind) && (decide (r4_3.1.N = r5_3.1.N) && (decide (r4_3.1.Re = r5_3.1.Re) && decide (r4_3.1.Im = r5_3.1.Im)))))) from eqA_ob (P := Try.prog) (ne := true) (xs := [.int .u8 r4_3.1.Kind, .int .i64 r4_3.1.N, .int .i64 r4_3.1.Re, .int .i64 r4_3.1.Im]) (ys := [.int .u8 r5_3.1.Kind, .int .i64 r5_3.1.N, .int .i64 r5_3.1.Re, .int .i64 r5_3.1.Im]) (hh := none) ⟨_, by rfl⟩ (by kernel_rfl) (by kernel_rfl)) (aC (not_t hx3) (aC (not_t hx4) (aC (not_t hx4) (aC (not_t hx4) (aC (not_t hx4) (aC (not_t hx5) (aC (not_t hx5) (aC hx6 (aC hx6 (aC hx6 (aC hx6 (aC hx6 (aC hx6 (aC (not_t hx5) (aC hx6 (aC (not_t hx5) (aC (not_t hx7) (aC (not_t hx7) (aC (not_t hx7) (aC (not_t hx7) (aC (not_t hx8) (aC (not_t hx8) (aC hx9 (aC hx9 (aC hx9 (aC (not_t hx8) (aC hx9 (aC (not_t hx8) aN)))))))))))))))))))))))))))))))) (by kernel_rfl) ?_
 refine W_cdn h (by kernel_rfl) (fun hx10 h => ?_) (fun hx10 h => ?_)
 refine W_skip ?_
 exact W_conv (cB [12, 18, 21] [] [12, 14, 18, 20, 21, 23]) (by kernel_rfl) (hindcastlaw13_OperEqual_j1_ok r4_3 r6_3 r7_3 r_ _ kr h)
 refine W_z mixed [(8, aB false)] [] [] c0 [q_] aN (by kernel_rfl) ?_
 refine W_ret ?_
 exact kr [] _ _ (by kernel_rfl) (oinj h)
 refine W_z mixed [(136, aB false)] [12, 14, 18, 20, 21, 23] [k_ 12, k_ 18, k_ 21] (cB [12, 18, 21] []) [q_, q_, q_, q_, qf0, qf0, qf (.quiet (aB (!(decide (r4_3.1.Kind = r5_3.1.Kind) && (decide (r4_3.1.N = r5_3.1.N) && (decide (r4_3.1.Re = r5_3.1.Re) && decide (r4_3.1.Im = r5_3.1.Im))))))), qn (.dec false), q_, qf0, qf0, qf0, qn (.dec false), q_, qf0, qf0, qt0, qt0, qt0, qt0, qt0, qt0, qf (.dec true), qn (.dec false), q_, qf0, qf0, qf0, qn (.dec false), q_, qf0, qf0, qf0, qf0, qf0, qf (.dec false), qn (.dec false)] (aC (not_t hx3) (aC (not_t hx3) (aC (not_t hx3) (aC (show Quiet Try.prog (opAt (subC (bodyC Try.prog 5) [1, 1, 1, 1, 1, 1, 1, 1, 1, 1, 0, 0]) 6) [e_GApiValue r4_3.1, e_GApiValue r5_3.1] (aB (!(decide (r4_3.1.Kind = r5_3.1.Kind) && (decide (r4_3.1.N = r5_3.1.N) && (decide (r4_3.1.Re = r5_3.1.Re) && decide (r4_3.1.Im = r5_3.1.Im)))))) from eqA_ob (P := Try.prog) (ne := true) (xs := [.int .u8 r4_3.1.Kind, .int .i64 r4_3.1.N, .int .i64 r4_3.1.Re, .int .i64 r4_3.1.Im]) (ys := [.int .u8 r5_3.1.Kind, .int .i64 r5_3.1.N, .int .i64 r5_3.1.Re, .int .i64 r5_3.1.Im]) (hh := none) ⟨_, by rfl⟩ (by kernel_rfl) (by kernel_rfl)) (aC (not_t hx3) (aC (not_t hx4) (aC (not_t hx4) (aC (not_t hx4) (aC (not_t hx4) (aC (not_t hx5) (aC (not_t hx5) (aC hx6 (aC hx6 (aC hx6 (aC hx6 (aC hx6 (aC hx6 (aC (not_t hx5) (aC hx6 (aC (not_t hx5) (aC (not_t hx7) (aC (not_t hx7) (aC (not_t hx7) (aC (not_t hx7) (aC (not_t hx8) (aC (not_t hx8) (aC hx9 (aC hx9 (aC hx9 (aC (not_t hx8) (aC hx9 (aC (not_t hx8) aN)))))))))))))))))))))))))))))))) (by kernel_rfl) ?_
 refine W_cf (e := false) rfl (by kernel_rfl) ?_
 refine W_skip ?_
 exact W_conv (cB [12, 18, 21] [] [12, 14, 18, 20, 21, 23]) (by kernel_rfl) (hindcastlaw13_OperEqual_j1_ok r4_3 r6_3 r7_3 r_ _ kr h)
 refine W_z mixed [(136, aB true)] [12, 14, 18, 20, 21, 23] [k_ 12, k_ 18, k_ 21] (cB [12, 18, 21] []) [q_, q_, q_, q_, qf0, qf0, qf (.quiet (aB (!(decide (r4_3.1.Kind = r5_3.1.Kind) && (decide (r4_3.1.N = r5_3.1.N) && (decide (r4_3.1.Re = r5_3.1.Re) && decide (r4_3.1.Im = r5_3.1.Im))))))), qn (.dec false), q_, qf0, qf0, qf0, qn (.dec false), q_, qf0, qf0, qt0, qt0, qt0, qt0, qt0, qt0, qf (.dec true), qn (.dec false), q_, qf0, qf0, qf0, qn (.dec false), q_, qt0, qt0, q_, q_, q_, qt0, qn (.dec true)] (aC (not_t hx3) (aC (not_t hx3) (aC (not_t hx3) (aC (show Quiet Try.prog (opAt (subC (bodyC Try.prog 5) [1, 1, 1, 1, 1, 1, 1, 1, 1, 1, 0, 0]) 6) [e_GApiValue r4_3.1, e_GApiValue r5_3.1] (aB (!(decide (r4_3.1.Kind = r5_3.1.Kind) && (decide (r4_3.1.N = r5_3.1.N) && (decide (r4_3.1.Re = r5_3.1.Re) && decide (r4_3.1.Im = r5_3.1.Im)))))) from eqA_ob (P := Try.prog) (ne := true) (xs := [.int .u8 r4_3.1.Kind, .int .i64 r4_3.1.N, .int .i64 r4_3.1.Re, .int .i64 r4_3.1.Im]) (ys := [.int .u8 r5_3.1.Kind, .int .i64 r5_3.1.N, .int .i64 r5_3.1.Re, .int .i64 r5_3.1.Im]) (hh := none) ⟨_, by rfl⟩ (by kernel_rfl) (by kernel_rfl)) (aC (not_t hx3) (aC (not_t hx4) (aC (not_t hx4) (aC (not_t hx4) (aC (not_t hx4) (aC (not_t hx5) (aC (not_t hx5) (aC hx6 (aC hx6 (aC hx6 (aC hx6 (aC hx6 (aC hx6 (aC (not_t hx5) (aC hx6 (aC (not_t hx5) (aC (not_t hx7) (aC (not_t hx7) (aC (not_t hx7) (aC (not_t hx7) (aC (not_f hx8) (aC (not_f hx8) (aC (not_f hx8) (aC (not_f hx8) aN)))))))))))))))))))))))))))) (by kernel_rfl) ?_
 refine W_ct (e := true) rfl (by kernel_rfl) ?_
 refine W_z mixed [(8, aB false)] [] [] c0 [q_] aN (by kernel_rfl) ?_
 refine W_ret ?_
 exact kr [] _ _ (by kernel_rfl) (oinj h)
 refine W_z mixed [(136, aB true)] [12, 14, 18, 20, 21, 23] [k_ 12, k_ 18, k_ 21] (cB [12, 18, 21] []) (q_ :: q_ :: q_ :: q_ :: qf0 :: qf0 :: qf (.quiet (aB (!(decide (r4_3.1.Kind = r5_3.1.Kind) && (decide (r4_3.1.N = r5_3.1.N) && (decide (r4_3.1.Re = r5_3.1.Re) && decide (r4_3.1.Im = r5_3.1.Im))))))) :: qn (.dec false) :: q_ :: qf0 :: qf0 :: qf0 :: qn (.dec false) :: q_ :: qf0 :: qf0 :: qt0 :: qt0 :: qt0 :: qt0 :: qt0 :: qt0 :: qf (.dec true) :: qn (.dec false) :: q_ :: qt0 :: qt0 :: qt0 :: qn (.dec true) :: (qz 8 [])) (aC (not_t hx3) (aC (not_t hx3) (aC (not_t hx3) (aC (show Quiet Try.prog (opAt (subC (bodyC Try.prog 5) [1, 1, 1, 1, 1, 1, 1, 1, 1, 1, 0, 0]) 6) [e_GApiValue r4_3.1, e_GApiValue r5_3.1] (aB (!(decide (r4_3.1.Kind = r5_3.1.Kind) && (decide (r4_3.1.N = r5_3.1.N) && (decide (r4_3.1.Re = r5_3.1.Re) && decide (r4_3.1.Im = r5_3.1.Im)))))) from eqA_ob (P := Try.prog) (ne := true) (xs := [.int .u8 r4_3.1.Kind, .int .i64 r4_3.1.N, .int .i64 r4_3.1.Re, .int .i64 r4_3.1.Im]) (ys := [.int .u8 r5_3.1.Kind, .int .i64 r5_3.1.N, .int .i64 r5_3.1.Re, .int .i64 r5_3.1.Im]) (hh := none) ⟨_, by rfl⟩ (by kernel_rfl) (by kernel_rfl)) (aC (not_t hx3) (aC (not_t hx4) (aC (not_t hx4) (aC (not_t hx4) (aC (not_t hx4) (aC (not_t hx5) (aC (not_t hx5) (aC hx6 (aC hx6 (aC hx6 (aC hx6 (aC hx6 (aC hx6 (aC (not_t hx5) (aC hx6 (aC (not_t hx5) (aC (not_f hx7) (aC (not_f hx7) (aC (not_f hx7) (aC (not_f hx7) aN)))))))))))))))))))))))) (by kernel_rfl) ?_
 refine W_ct (e := true) rfl (by kernel_rfl) ?_
 refine W_z mixed [(8, aB false)] [] [] c0 [q_] aN (by kernel_rfl) ?_
 refine W_ret ?_
 exact kr [] _ _ (by kernel_rfl) (oinj h)
 refine ib_c h (fun hx11 h => ?_) (fun hx11 h => ?_)
 refine ib_c h (fun hx12 h => ?_) (fun hx12 h => ?_)
 refine W_z mixed [(136, aB (!(decide (r9_3.1.N = 1))))] [12, 14, 18, 20, 21, 23] [k_ 12, k_ 18, k_ 21] (cB [12, 18, 21] []) (q_ :: q_ :: q_ :: q_ :: qf0 :: qf0 :: qf (.quiet (aB (!(decide (r4_3.1.Kind = r5_3.1.Kind) && (decide (r4_3.1.N = r5_3.1.N) && (decide (r4_3.1.Re = r5_3.1.Re) && decide (r4_3.1.Im = r5_3.1.Im))))))) :: qn (.dec false) :: q_ :: qf0 :: qf0 :: qf0 :: qn (.dec false) :: q_ :: qf0 :: qf0 :: qf0 :: qf0 :: qf0 :: qf0 :: qf0 :: qf0 :: qf (.dec false) :: qn (.dec false) :: (qz 6 [qf0, qf0, qt0, qt0, qt0, qf (.dec true), qn (.dec false)])) (aC (not_t hx3) (aC (not_t hx3) (aC (not_t hx3) (aC (show Quiet Try.prog (opAt (subC (bodyC Try.prog 5) [1, 1, 1, 1, 1, 1, 1, 1, 1, 1, 0, 0]) 6) [e_GApiValue r4_3.1, e_GApiValue r5_3.1] (aB (!(decide (r4_3.1.Kind = r5_3.1.Kind) && (decide (r4_3.1.N = r5_3.1.N) && (decide (r4_3.1.Re = r5_3.1.Re) && decide (r4_3.1.Im = r5_3.1.Im)))))) from eqA_ob (P := Try.prog) (ne := true) (xs := [.int .u8 r4_3.1.Kind, .int .i64 r4_3.1.N, .int .i64 r4_3.1.Re, .int .i64 r4_3.1.Im]) (ys := [.int .u8 r5_3.1.Kind, .int .i64 r5_3.1.N, .int .i64 r5_3.1.Re, .int .i64 r5_3.1.Im]) (hh := none) ⟨_, by rfl⟩ (by kernel_rfl) (by kernel_rfl)) (aC (not_t hx3) (aC (not_t hx4) (aC (not_t hx4) (aC (not_t hx4) (aC (not_t hx4) (aC (not_t hx5) (aC (not_t hx5) (aC hx6 (aC hx6 (aC hx6 (aC hx6 (aC hx6 (aC hx6 (aC (not_t hx5) (aC hx6 (aC (not_t hx5) (aC (not_t hx11) (aC (not_t hx11) (aC hx12 (aC hx12 (aC hx12 (aC (not_t hx11) (aC hx12 (aC (not_t hx11) aN)))))))))))))))))))))))))))) (by kernel_rfl) ?_
 refine W_cdn h (by kernel_rfl) (fun hx13 h => ?_) (fun hx13 h => ?_)
 refine W_skip ?_
 exact W_conv (cB [12, 18, 21] [] [12, 14, 18, 20, 21, 23]) (by kernel_rfl) (hindcastlaw13_OperEqual_j1_ok r4_3 r6_3 r7_3 r_ _ kr h)
 refine W_z mixed [(8, aB false)] [] [] c0 [q_] aN (by kernel_rfl) ?_
 refine W_ret ?_
 exact kr [] _ _ (by kernel_rfl) (oinj h)
 refine W_z mixed [(136, aB false)] [12, 14, 18, 20, 21, 23] [k_ 12, k_ 18, k_ 21] (cB [12, 18, 21] []) (q_ :: q_ :: q_ :: q_ :: qf0 :: qf0 :: qf (.quiet (aB (!(decide (r4_3.1.Kind = r5_3.1.Kind) && (decide (r4_3.1.N = r5_3.1.N) && (decide (r4_3.1.Re = r5_3.1.Re) && decide (r4_3.1.Im = r5_3.1.Im))))))) :: qn (.dec false) :: q_ :: qf0 :: qf0 :: qf0 :: qn (.dec false) :: q_ :: qf0 :: qf0 :: qf0 :: qf0 :: qf0 :: qf0 :: qf0 :: qf0 :: qf (.dec false) :: qn (.dec false) :: (qz 6 [qf0, qf0, qf0, qf0, qf0, qf (.dec false), qn (.dec false)])) (aC (not_t hx3) (aC (not_t hx3) (aC (not_t hx3) (aC (show Quiet Try.prog (opAt (subC (bodyC Try.prog 5) [1, 1, 1, 1, 1, 1, 1, 1, 1, 1, 0, 0]) 6) [e_GApiValue r4_3.1, e_GApiValue r5_3.1] (aB (!(decide (r4_3.1.Kind = r5_3.1.Kind) && (decide (r4_3.1.N = r5_3.1.N) && (decide (r4_3.1.Re = r5_3.1.Re) && decide (r4_3.1.Im = r5_3.1.Im)))))) from eqA_ob (P := Try.prog) (ne := true) (xs := [.int .u8 r4_3.1.Kind, .int .i64 r4_3.1.N, .int .i64 r4_3.1.Re, .int .i64 r4_3.1.Im]) (ys := [.int .u8 r5_3.1.Kind, .int .i64 r5_3.1.N, .int .i64 r5_3.1.Re, .int .i64 r5_3.1.Im]) (hh := none) ⟨_, by rfl⟩ (by kernel_rfl) (by kernel_rfl)) (aC (not_t hx3) (aC (not_t hx4) (aC (not_t hx4) (aC (not_t hx4) (aC (not_t hx4) (aC (not_t hx5) (aC (not_t hx5) (aC hx6 (aC hx6 (aC hx6 (aC hx6 (aC hx6 (aC hx6 (aC (not_t hx5) (aC hx6 (aC (not_t hx5) (aC (not_t hx11) (aC (not_t hx11) (aC hx12 (aC hx12 (aC hx12 (aC (not_t hx11) (aC hx12 (aC (not_t hx11) aN)))))))))))))))))))))))))))) (by kernel_rfl) ?_
 refine W_cf (e := false) rfl (by kernel_rfl) ?_
 refine W_skip ?_
 exact W_conv (cB [12, 18, 21] [] [12, 14, 18, 20, 21, 23]) (by kernel_rfl) (hindcastlaw13_OperEqual_j1_ok r4_3 r6_3 r7_3 r_ _ kr h)
 refine W_z mixed [(136, aB true)] [12, 14, 18, 20, 21, 23] [k_ 12, k_ 18, k_ 21] (cB [12, 18, 21] []) (q_ :: q_ :: q_ :: q_ :: qf0 :: qf0 :: qf (.quiet (aB (!(decide (r4_3.1.Kind = r5_3.1.Kind) && (decide (r4_3.1.N = r5_3.1.N) && (decide (r4_3.1.Re = r5_3.1.Re) && decide (r4_3.1.Im = r5_3.1.Im))))))) :: qn (.dec false) :: q_ :: qf0 :: qf0 :: qf0 :: qn (.dec false) :: q_ :: qf0 :: qf0 :: qf0 :: qf0 :: qf0 :: qf0 :: qf0 :: qf0 :: qf (.dec false) :: qn (.dec false) :: (qz 6 [qt0, qt0, q_, q_, q_, qt0, qn (.dec true)])) (aC (not_t hx3) (aC (not_t hx3) (aC (not_t hx3) (aC (show Quiet Try.prog (opAt (subC (bodyC Try.prog 5) [1, 1, 1, 1, 1, 1, 1, 1, 1, 1, 0, 0]) 6) [e_GApiValue r4_3.1, e_GApiValue r5_3.1] (aB (!(decide (r4_3.1.Kind = r5_3.1.Kind) && (decide (r4_3.1.N = r5_3.1.N) && (decide (r4_3.1.Re = r5_3.1.Re) && decide (r4_3.1.Im = r5_3.1.Im)))))) from eqA_ob (P := Try.prog) (ne := true) (xs := [.int .u8 r4_3.1.Kind, .int .i64 r4_3.1.N, .int .i64 r4_3.1.Re, .int .i64 r4_3.1.Im]) (ys := [.int .u8 r5_3.1.Kind, .int .i64 r5_3.1.N, .int .i64 r5_3.1.Re, .int .i64 r5_3.1.Im]) (hh := none) ⟨_, by rfl⟩ (by kernel_rfl) (by kernel_rfl)) (aC (not_t hx3) (aC (not_t hx4) (aC (not_t hx4) (aC (not_t hx4) (aC (not_t hx4) (aC (not_t hx5) (aC (not_t hx5) (aC hx6 (aC hx6 (aC hx6 (aC hx6 (aC hx6 (aC hx6 (aC (not_t hx5) (aC hx6 (aC (not_t hx5) (aC (not_f hx11) (aC (not_f hx11) (aC (not_f hx11) (aC (not_f hx11) aN)))))))))))))))))))))))) (by kernel_rfl) ?_
 refine W_ct (e := true) rfl (by kernel_rfl) ?_
 refine W_z mixed [(8, aB false)] [] [] c0 [q_] aN (by kernel_rfl) ?_
 refine W_ret ?_
 exact kr [] _ _ (by kernel_rfl) (oinj h)
 refine W_z mixed [(136, aB true)] [12, 14, 18, 20, 21, 23] [k_ 12, k_ 18, k_ 21] (cB [12, 18, 21] []) (q_ :: q_ :: q_ :: q_ :: qf0 :: qf0 :: qf (.quiet (aB (!(decide (r4_3.1.Kind = r5_3.1.Kind) && (decide (r4_3.1.N = r5_3.1.N) && (decide (r4_3.1.Re = r5_3.1.Re) && decide (r4_3.1.Im = r5_3.1.Im))))))) :: qn (.dec false) :: q_ :: qf0 :: qf0 :: qf0 :: qn (.dec false) :: q_ :: qt0 :: qt0 :: (qz 6 (qt0 :: qn (.dec true) :: (qz 13 [])))) (aC (not_t hx3) (aC (not_t hx3) (aC (not_t hx3) (aC (show Quiet Try.prog (opAt (subC (bodyC Try.prog 5) [1, 1, 1, 1, 1, 1, 1, 1, 1, 1, 0, 0]) 6) [e_GApiValue r4_3.1, e_GApiValue r5_3.1] (aB (!(decide (r4_3.1.Kind = r5_3.1.Kind) && (decide (r4_3.1.N = r5_3.1.N) && (decide (r4_3.1.Re = r5_3.1.Re) && decide (r4_3.1.Im = r5_3.1.Im)))))) from eqA_ob (P := Try.prog) (ne := true) (xs := [.int .u8 r4_3.1.Kind, .int .i64 r4_3.1.N, .int .i64 r4_3.1.Re, .int .i64 r4_3.1.Im]) (ys := [.int .u8 r5_3.1.Kind, .int .i64 r5_3.1.N, .int .i64 r5_3.1.Re, .int .i64 r5_3.1.Im]) (hh := none) ⟨_, by rfl⟩ (by kernel_rfl) (by kernel_rfl)) (aC (not_t hx3) (aC (not_t hx4) (aC (not_t hx4) (aC (not_t hx4) (aC (not_t hx4) (aC (not_f hx5) (aC (not_f hx5) (aC (not_f hx5) (aC (not_f hx5) aN))))))))))))) (by kernel_rfl) ?_
 refine W_ct (e := true) rfl (by kernel_rfl) ?_
 refine W_z mixed [(8, aB false)] [] [] c0 [q_] aN (by kernel_rfl) ?_
 refine W_ret ?_
 exact kr [] _ _ (by kernel_rfl) (oinj h)
 refine W_z mixed [(136, aB true)] [12, 14, 18, 20, 21, 23] [k_ 12, k_ 18, k_ 21] (cB [12, 18, 21] []) (q_ :: q_ :: q_ :: q_ :: qf0 :: qf0 :: qf (.quiet (aB (!(decide (r4_3.1.Kind = r5_3.1.Kind) && (decide (r4_3.1.N = r5_3.1.N) && (decide (r4_3.1.Re = r5_3.1.Re) && decide (r4_3.1.Im = r5_3.1.Im))))))) :: qn (.dec false) :: q_ :: qt0 :: qt0 :: qt0 :: qn (.dec true) :: (qz 24 [])) (aC (not_t hx3) (aC (not_t hx3) (aC (not_t hx3) (aC (show Quiet Try.prog (opAt (subC (bodyC Try.prog 5) [1, 1, 1, 1, 1, 1, 1, 1, 1, 1, 0, 0]) 6) [e_GApiValue r4_3.1, e_GApiValue r5_3.1] (aB (!(decide (r4_3.1.Kind = r5_3.1.Kind) && (decide (r4_3.1.N = r5_3.1.N) && (decide (r4_3.1.Re = r5_3.1.Re) && decide (r4_3.1.Im = r5_3.1.Im)))))) from eqA_ob (P := Try.prog) (ne := true) (xs := [.int .u8 r4_3.1.Kind, .int .i64 r4_3.1.N, .int .i64 r4_3.1.Re, .int .i64 r4_3.1.Im]) (ys := [.int .u8 r5_3.1.Kind, .int .i64 r5_3.1.N, .int .i64 r5_3.1.Re, .int .i64 r5_3.1.Im]) (hh := none) ⟨_, by rfl⟩ (by kernel_rfl) (by kernel_rfl)) (aC (not_t hx3) (aC (not_f hx4) (aC (not_f hx4) (aC (not_f hx4) (aC (not_f hx4) aN))))))))) (by kernel_rfl) ?_
 refine W_ct (e := true) rfl (by kernel_rfl) ?_
 refine W_z mixed [(8, aB false)] [] [] c0 [q_] aN (by kernel_rfl) ?_
 refine W_ret ?_
 exact kr [] _ _ (by kernel_rfl) (oinj h)
 refine W_z mixed [(136, aB true)] [12, 14, 18, 20, 21, 23] [k_ 12, k_ 18, k_ 21] (cB [12, 18, 21] []) (q_ :: q_ :: q_ :: q_ :: qt0 :: qt0 :: qt0 :: qn (.dec true) :: (qz 29 [])) (aC (not_f hx3) (aC (not_f hx3) (aC (not_f hx3) (aC (not_f hx3) aN)))) (by kernel_rfl) ?_
 refine W_ct (e := true) rfl (by kernel_rfl) ?_
 refine W_z mixed [(8, aB false)] [] [] c0 [q_] aN (by kernel_rfl) ?_
 refine W_ret ?_
 exact kr [] _ _ (by kernel_rfl) (oinj h)
 exact W_conv (c0 []) (by kernel_rfl) (hindcastlaw13_OperEqual_j0_ok r_ _ kr h)
inductive hindcastref11_SameValues_C where
  | l0 (a0 : (List GApiValue)) (a1 : (List GApiValue)) (v0_13_0 : Int)
  | j1
inductive hindcastref11_Same_C where
  | l0 (a0 : (List GApiObj)) (a1 : (List GApiObj)) (v0_13_0 : Int)
  | j1
inductive oper_Built_C where
  | l0 (a2 : Int) (a3 : (List GApiValue)) (r1_1 : ((List Int) × Bool)) (v0_36_0 : Int) (a1 : GOperFeed) (a0 : GHeapHeap)
  | j1 (a2 : Int) (a3 : (List GApiValue)) (a1 : GOperFeed) (a0 : GHeapHeap)
inductive oper_Built_n_C where
  | l0 (a2 : Int) (a3 : (List GApiValue)) (r1_1 : ((List Int) × Bool)) (v0_36_0 : Int) (a0 : GHeapHeap)
  | j1 (a2 : Int) (a3 : (List GApiValue)) (a0 : GHeapHeap)
end Go.Proofs.Ytmffhifkdbfbfaa
