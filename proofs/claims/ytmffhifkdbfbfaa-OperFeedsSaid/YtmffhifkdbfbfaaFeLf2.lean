/- Parts of the proof. -/
import Derived.Test.YtmffhifkdbfbfaaFeLf1
namespace Go.Proofs.Ytmffhifkdbfbfaa
open Go.RowKit
set_option linter.unusedVariables false
set_option maxHeartbeats 4000000
def R_hindcastlaw13_OperFeeds (a0 : (List Int)) (a1 : (List Int)) (a2 : Int) (a3 : Int) (a4 : Int) (r : Bool) : Prop := FnP Try.prog 4 [.t (.sl 1 (a0.map c_i64)), .t (.sl 1 (a1.map c_i64)), aI .i64 a2, aI .i64 a3, aI .i64 a4] (aB r)
abbrev hindcastlaw13_OperFeeds_e (x : Bool) : A := (aB x)
noncomputable def hindcastlaw13_OperFeeds_j0  : Option Bool :=
  ((hindcastlaw13_awake).bind fun (r2_0 : Bool) => (some r2_0))
noncomputable def hindcastlaw13_OperFeeds_j1 (a4 : Int) (r4_1 : (Int × Int)) (r8_1 : (Int × Bool × GOperFeed)) (r9_2 : (Int × Int × GOperFeed)) (v1_19_0 : Int) (v1_20_0 : Int) (v1_21_0 : Int) (v1_22_0 : Bool) (v1_23_0 : Int) (v1_24_0 : Int) : Option Bool :=
  ((oper_Feed_Read_n ()).bind fun (rn14_1 : (Int × Bool)) => ((oper_Feed_Draw_n () (if a4 < 1 then 1 else a4)).bind fun (rn15_3 : (Int × Int)) => ((oper_Feed_Gone_n ()).bind fun (rn16_1 : (Int × Int)) => (if v1_19_0 = r4_1.1 then (if v1_20_0 = r4_1.2 then (if r8_1.1 = v1_21_0 then (if (r8_1.2.1 == v1_22_0) = true then (if r9_2.1 = v1_23_0 then (if r9_2.2.1 = v1_24_0 then (if rn14_1.1 = 0 then (if rn14_1.2 = true then (some false) else (if rn15_3.2 = 6 then (if rn16_1.1 = 0 then (if rn16_1.2 = 0 then ((oper_Feed_Copy_n ()).bind fun (rn17_50 : (Option GOperFeed)) => (optCase rn17_50 ((hindcastlaw13_awake).bind fun (r17_54 : Bool) => (some r17_54)) fun (y2012 : GOperFeed) => (some false))) else (some false)) else (some false)) else (some false))) else (some false)) else (some false)) else (some false)) else (some false)) else (some false)) else (some false)) else (some false)))))
def hindcastlaw13_OperFeeds_j0_s  : LS := LS.mk 169 [] []
def hindcastlaw13_OperFeeds_j1_s (a4 : Int) (r4_1 : (Int × Int)) (r8_1 : (Int × Bool × GOperFeed)) (r9_2 : (Int × Int × GOperFeed)) (v1_19_0 : Int) (v1_20_0 : Int) (v1_21_0 : Int) (v1_22_0 : Bool) (v1_23_0 : Int) (v1_24_0 : Int) : LS := LS.mk 169 [(4, aI .i64 a4), (12, aI .i64 r4_1.1), (13, aI .i64 r4_1.2), (15, aI .i64 r8_1.1), (16, aB r8_1.2.1), (17, aI .i64 r9_2.1), (18, aI .u8 r9_2.2.1), (19, aI .i64 v1_19_0), (20, aI .i64 v1_20_0), (21, aI .i64 v1_21_0), (22, aB v1_22_0), (23, aI .i64 v1_23_0), (24, aI .u8 v1_24_0)] []
set_option maxRecDepth 100000 in
theorem hindcastlaw13_OperFeeds_j0_ok  (r_ : Bool) (Q' : Exit → St → Prop) (kr : KR Try.prog 4 hindcastlaw13_OperFeeds_e r_ .ret Q')  (h : hindcastlaw13_OperFeeds_j0  = some r_) : W Try.prog (subC (bodyC Try.prog 4) [1, 0, 1, 0]) (hindcastlaw13_OperFeeds_j0_s ).st Q' := by
 unfold hindcastlaw13_OperFeeds_j0 at h
 obtain ⟨r2_0, hr2_0, h⟩ := bind_ok h
 have hr2_0 := hindcastlaw13_awake_ok hr2_0
 refine W_z mixed [(10, aB r2_0)] [] [] c0 [qn (.call [] (aB r2_0)), q_] (aC hr2_0 aN) (by kernel_rfl) ?_
 refine W_ret ?_
 exact kr [] _ _ (by kernel_rfl) (oinj h)
set_option maxRecDepth 100000 in
theorem hindcastlaw13_OperFeeds_j1_ok (a4 : Int) (r4_1 : (Int × Int)) (r8_1 : (Int × Bool × GOperFeed)) (r9_2 : (Int × Int × GOperFeed)) (v1_19_0 : Int) (v1_20_0 : Int) (v1_21_0 : Int) (v1_22_0 : Bool) (v1_23_0 : Int) (v1_24_0 : Int) (r_ : Bool) (Q' : Exit → St → Prop) (kr : KR Try.prog 4 hindcastlaw13_OperFeeds_e r_ .ret Q')  (h : hindcastlaw13_OperFeeds_j1 a4 r4_1 r8_1 r9_2 v1_19_0 v1_20_0 v1_21_0 v1_22_0 v1_23_0 v1_24_0 = some r_) : W Try.prog (subC (bodyC Try.prog 4) [1, 1, 1, 1, 1, 1, 1, 1, 1, 1, 1]) (hindcastlaw13_OperFeeds_j1_s a4 r4_1 r8_1 r9_2 v1_19_0 v1_20_0 v1_21_0 v1_22_0 v1_23_0 v1_24_0).st Q' := by
 unfold hindcastlaw13_OperFeeds_j1 at h
 refine W_z mixed [(25, aPnil)] [4, 12, 13, 15, 16, 17, 18, 19, 20, 21, 22, 23, 24] [] c0 [q_] aN (by kernel_rfl) ?_
 obtain ⟨rn14_1, hrn14_1, h⟩ := bind_ok h
 have hrn14_1 := oper_Feed_Read_n_ok hrn14_1
 refine W_z mixed [(26, aI .i64 rn14_1.1), (27, aB rn14_1.2)] [4, 12, 13, 15, 16, 17, 18, 19, 20, 21, 22, 23, 24, 25] [] c0 [q_, qn (.call [] (.tup [aI .i64 rn14_1.1, aB rn14_1.2])), q_, q_, q_, q_, q_] (aC hrn14_1 aN) (by kernel_rfl) ?_
 obtain ⟨rn15_3, hrn15_3, h⟩ := bind_ok h
 have hrn15_3 := oper_Feed_Draw_n_ok hrn15_3
 refine W_z mixed [(29, aI .u8 rn15_3.2)] [12, 13, 15, 16, 17, 18, 19, 20, 21, 22, 23, 24, 25, 26, 27] [] c0 [q_, q_, qn (.quiet (aI .i64 (if a4 < 1 then 1 else a4))), qn (.call [] (.tup [aI .i64 rn15_3.1, aI .u8 rn15_3.2])), q_, q_, q_, q_, q_] (aC (show Quiet Try.prog (opAt (subC (bodyC Try.prog 4) [1, 1, 1, 1, 1, 1, 1, 1, 1, 1, 1, 1, 1, 0]) 2) [aI .i64 a4, aI .i64 1] (aI .i64 (if a4 < 1 then 1 else a4)) from max_ob (by rfl) (by rfl) (by rfl)) (aC hrn15_3 aN)) (by kernel_rfl) ?_
 obtain ⟨rn16_1, hrn16_1, h⟩ := bind_ok h
 have hrn16_1 := oper_Feed_Gone_n_ok hrn16_1
 refine W_z mixed [(30, aI .i64 rn16_1.1), (31, aI .i64 rn16_1.2)] [12, 13, 15, 16, 17, 18, 19, 20, 21, 22, 23, 24, 25, 26, 27, 29] [] c0 [q_, qn (.call [] (.tup [aI .i64 rn16_1.1, aI .i64 rn16_1.2])), q_, q_, q_, q_, q_] (aC hrn16_1 aN) (by kernel_rfl) ?_
 refine if_c h (fun hx2001 h => ?_) (fun hx2001 h => ?_)
 refine if_c h (fun hx2002 h => ?_) (fun hx2002 h => ?_)
 refine if_c h (fun hx2003 h => ?_) (fun hx2003 h => ?_)
 refine ib_c h (fun hx2004 h => ?_) (fun hx2004 h => ?_)
 refine if_c h (fun hx2005 h => ?_) (fun hx2005 h => ?_)
 refine if_c h (fun hx2006 h => ?_) (fun hx2006 h => ?_)
 refine if_c h (fun hx2007 h => ?_) (fun hx2007 h => ?_)
 refine ib_c h (fun hx2008 h => ?_) (fun hx2008 h => ?_)
 refine W_z mixed [(10, aB false)] [] [] c0 (q_ :: q_ :: q_ :: q_ :: qt0 :: qt0 :: qt0 :: qn (.dec true) :: q_ :: qt0 :: qt0 :: qt0 :: qn (.dec true) :: q_ :: qt0 :: qt0 :: qt0 :: qn (.dec true) :: q_ :: qt0 :: qt0 :: qt0 :: qn (.dec true) :: q_ :: qt0 :: qt0 :: qt0 :: qn (.dec true) :: q_ :: qt0 :: qt0 :: qn (.dec true) :: q_ :: qt0 :: qt0 :: qn (.dec true) :: q_ :: qf0 :: qf0 :: qn (.dec false) :: (qz 17 [])) (aC hx2001 (aC hx2001 (aC hx2001 (aC hx2001 (aC hx2002 (aC hx2002 (aC hx2002 (aC hx2002 (aC hx2003 (aC hx2003 (aC hx2003 (aC hx2003 (aC hx2004 (aC hx2004 (aC hx2004 (aC hx2004 (aC hx2005 (aC hx2005 (aC hx2005 (aC hx2005 (aC hx2006 (aC hx2006 (aC hx2006 (aC hx2007 (aC hx2007 (aC hx2007 (aC (not_t hx2008) (aC (not_t hx2008) (aC (not_t hx2008) aN))))))))))))))))))))))))))))) (by kernel_rfl) ?_
 refine W_ret ?_
 exact kr [] _ _ (by kernel_rfl) (oinj h)
 refine if_c h (fun hx2009 h => ?_) (fun hx2009 h => ?_)
 refine if_c h (fun hx2010 h => ?_) (fun hx2010 h => ?_)
 refine if_c h (fun hx2011 h => ?_) (fun hx2011 h => ?_)
 obtain ⟨rn17_50, hrn17_50, h⟩ := bind_ok h
 have hrn17_50 := oper_Feed_Copy_n_ok hrn17_50
 rcases rn17_50 with _ | y2012
 have h := oc_n h
 obtain ⟨r17_54, hr17_54, h⟩ := bind_ok h
 have hr17_54 := hindcastlaw13_awake_ok hr17_54
 refine W_z mixed [(10, aB r17_54)] [] [] c0 [q_, q_, q_, q_, qt0, qt0, qt0, qn (.dec true), q_, qt0, qt0, qt0, qn (.dec true), q_, qt0, qt0, qt0, qn (.dec true), q_, qt0, qt0, qt0, qn (.dec true), q_, qt0, qt0, qt0, qn (.dec true), q_, qt0, qt0, qn (.dec true), q_, qt0, qt0, qn (.dec true), q_, qt0, qt0, qn (.dec true), q_, qt0, qt0, qn (.dec true), q_, qt0, qt0, qn (.dec true), q_, qt0, qt (.call [] (.t (tP c_GOperFeed none))), qt0, qn (.dec true), q_, qn (.call [] (aB r17_54)), q_, q_] (aC hx2001 (aC hx2001 (aC hx2001 (aC hx2001 (aC hx2002 (aC hx2002 (aC hx2002 (aC hx2002 (aC hx2003 (aC hx2003 (aC hx2003 (aC hx2003 (aC hx2004 (aC hx2004 (aC hx2004 (aC hx2004 (aC hx2005 (aC hx2005 (aC hx2005 (aC hx2005 (aC hx2006 (aC hx2006 (aC hx2006 (aC hx2007 (aC hx2007 (aC hx2007 (aC (not_f hx2008) (aC (not_f hx2008) (aC (not_f hx2008) (aC hx2009 (aC hx2009 (aC hx2009 (aC hx2010 (aC hx2010 (aC hx2010 (aC hx2011 (aC hx2011 (aC hrn17_50 (aC hx2011 (aC hx2011 (aC hr17_54 aN))))))))))))))))))))))))))))))))))))))))) (by kernel_rfl) ?_
 refine W_ret ?_
 exact kr [] _ _ (by kernel_rfl) (oinj h)
 have h := oc_s h
 refine W_z mixed [(10, aB false)] [] [] c0 [q_, q_, q_, q_, qt0, qt0, qt0, qn (.dec true), q_, qt0, qt0, qt0, qn (.dec true), q_, qt0, qt0, qt0, qn (.dec true), q_, qt0, qt0, qt0, qn (.dec true), q_, qt0, qt0, qt0, qn (.dec true), q_, qt0, qt0, qn (.dec true), q_, qt0, qt0, qn (.dec true), q_, qt0, qt0, qn (.dec true), q_, qt0, qt0, qn (.dec true), q_, qt0, qt0, qn (.dec true), q_, qt0, qt (.call [] (.t (tP c_GOperFeed (some y2012)))), qt0, qn (.dec true), q_, q_, q_, q_] (aC hx2001 (aC hx2001 (aC hx2001 (aC hx2001 (aC hx2002 (aC hx2002 (aC hx2002 (aC hx2002 (aC hx2003 (aC hx2003 (aC hx2003 (aC hx2003 (aC hx2004 (aC hx2004 (aC hx2004 (aC hx2004 (aC hx2005 (aC hx2005 (aC hx2005 (aC hx2005 (aC hx2006 (aC hx2006 (aC hx2006 (aC hx2007 (aC hx2007 (aC hx2007 (aC (not_f hx2008) (aC (not_f hx2008) (aC (not_f hx2008) (aC hx2009 (aC hx2009 (aC hx2009 (aC hx2010 (aC hx2010 (aC hx2010 (aC hx2011 (aC hx2011 (aC hrn17_50 (aC hx2011 (aC hx2011 aN)))))))))))))))))))))))))))))))))))))))) (by kernel_rfl) ?_
 refine W_ret ?_
 exact kr [] _ _ (by kernel_rfl) (oinj h)
 refine W_z mixed [(10, aB false)] [] [] c0 [q_, q_, q_, q_, qt0, qt0, qt0, qn (.dec true), q_, qt0, qt0, qt0, qn (.dec true), q_, qt0, qt0, qt0, qn (.dec true), q_, qt0, qt0, qt0, qn (.dec true), q_, qt0, qt0, qt0, qn (.dec true), q_, qt0, qt0, qn (.dec true), q_, qt0, qt0, qn (.dec true), q_, qt0, qt0, qn (.dec true), q_, qt0, qt0, qn (.dec true), q_, qt0, qt0, qn (.dec true), q_, qf0, qf0, qf0, qn (.dec false), q_, q_, q_, q_] (aC hx2001 (aC hx2001 (aC hx2001 (aC hx2001 (aC hx2002 (aC hx2002 (aC hx2002 (aC hx2002 (aC hx2003 (aC hx2003 (aC hx2003 (aC hx2003 (aC hx2004 (aC hx2004 (aC hx2004 (aC hx2004 (aC hx2005 (aC hx2005 (aC hx2005 (aC hx2005 (aC hx2006 (aC hx2006 (aC hx2006 (aC hx2007 (aC hx2007 (aC hx2007 (aC (not_f hx2008) (aC (not_f hx2008) (aC (not_f hx2008) (aC hx2009 (aC hx2009 (aC hx2009 (aC hx2010 (aC hx2010 (aC hx2010 (aC hx2011 (aC hx2011 (aC hx2011 (aC hx2011 aN))))))))))))))))))))))))))))))))))))))) (by kernel_rfl) ?_
 refine W_ret ?_
 exact kr [] _ _ (by kernel_rfl) (oinj h)
 refine W_z mixed [(10, aB false)] [] [] c0 (q_ :: q_ :: q_ :: q_ :: qt0 :: qt0 :: qt0 :: qn (.dec true) :: q_ :: qt0 :: qt0 :: qt0 :: qn (.dec true) :: q_ :: qt0 :: qt0 :: qt0 :: qn (.dec true) :: q_ :: qt0 :: qt0 :: qt0 :: qn (.dec true) :: q_ :: qt0 :: qt0 :: qt0 :: qn (.dec true) :: q_ :: qt0 :: qt0 :: qn (.dec true) :: q_ :: qt0 :: qt0 :: qn (.dec true) :: q_ :: qt0 :: qt0 :: qn (.dec true) :: q_ :: qt0 :: qt0 :: qn (.dec true) :: q_ :: qf0 :: qf0 :: qn (.dec false) :: (qz 9 [])) (aC hx2001 (aC hx2001 (aC hx2001 (aC hx2001 (aC hx2002 (aC hx2002 (aC hx2002 (aC hx2002 (aC hx2003 (aC hx2003 (aC hx2003 (aC hx2003 (aC hx2004 (aC hx2004 (aC hx2004 (aC hx2004 (aC hx2005 (aC hx2005 (aC hx2005 (aC hx2005 (aC hx2006 (aC hx2006 (aC hx2006 (aC hx2007 (aC hx2007 (aC hx2007 (aC (not_f hx2008) (aC (not_f hx2008) (aC (not_f hx2008) (aC hx2009 (aC hx2009 (aC hx2009 (aC hx2010 (aC hx2010 (aC hx2010 aN))))))))))))))))))))))))))))))))))) (by kernel_rfl) ?_
 refine W_ret ?_
 exact kr [] _ _ (by kernel_rfl) (oinj h)
 refine W_z mixed [(10, aB false)] [] [] c0 (q_ :: q_ :: q_ :: q_ :: qt0 :: qt0 :: qt0 :: qn (.dec true) :: q_ :: qt0 :: qt0 :: qt0 :: qn (.dec true) :: q_ :: qt0 :: qt0 :: qt0 :: qn (.dec true) :: q_ :: qt0 :: qt0 :: qt0 :: qn (.dec true) :: q_ :: qt0 :: qt0 :: qt0 :: qn (.dec true) :: q_ :: qt0 :: qt0 :: qn (.dec true) :: q_ :: qt0 :: qt0 :: qn (.dec true) :: q_ :: qt0 :: qt0 :: qn (.dec true) :: q_ :: qf0 :: qf0 :: qn (.dec false) :: (qz 13 [])) (aC hx2001 (aC hx2001 (aC hx2001 (aC hx2001 (aC hx2002 (aC hx2002 (aC hx2002 (aC hx2002 (aC hx2003 (aC hx2003 (aC hx2003 (aC hx2003 (aC hx2004 (aC hx2004 (aC hx2004 (aC hx2004 (aC hx2005 (aC hx2005 (aC hx2005 (aC hx2005 (aC hx2006 (aC hx2006 (aC hx2006 (aC hx2007 (aC hx2007 (aC hx2007 (aC (not_f hx2008) (aC (not_f hx2008) (aC (not_f hx2008) (aC hx2009 (aC hx2009 (aC hx2009 aN)))))))))))))))))))))))))))))))) (by kernel_rfl) ?_
 refine W_ret ?_
 exact kr [] _ _ (by kernel_rfl) (oinj h)
 refine W_z mixed [(10, aB false)] [] [] c0 (q_ :: q_ :: q_ :: q_ :: qt0 :: qt0 :: qt0 :: qn (.dec true) :: q_ :: qt0 :: qt0 :: qt0 :: qn (.dec true) :: q_ :: qt0 :: qt0 :: qt0 :: qn (.dec true) :: q_ :: qt0 :: qt0 :: qt0 :: qn (.dec true) :: q_ :: qt0 :: qt0 :: qt0 :: qn (.dec true) :: q_ :: qt0 :: qt0 :: qn (.dec true) :: q_ :: qf0 :: qf0 :: qn (.dec false) :: (qz 21 [])) (aC hx2001 (aC hx2001 (aC hx2001 (aC hx2001 (aC hx2002 (aC hx2002 (aC hx2002 (aC hx2002 (aC hx2003 (aC hx2003 (aC hx2003 (aC hx2003 (aC hx2004 (aC hx2004 (aC hx2004 (aC hx2004 (aC hx2005 (aC hx2005 (aC hx2005 (aC hx2005 (aC hx2006 (aC hx2006 (aC hx2006 (aC hx2007 (aC hx2007 (aC hx2007 aN)))))))))))))))))))))))))) (by kernel_rfl) ?_
 refine W_ret ?_
 exact kr [] _ _ (by kernel_rfl) (oinj h)
 refine W_z mixed [(10, aB false)] [] [] c0 (q_ :: q_ :: q_ :: q_ :: qt0 :: qt0 :: qt0 :: qn (.dec true) :: q_ :: qt0 :: qt0 :: qt0 :: qn (.dec true) :: q_ :: qt0 :: qt0 :: qt0 :: qn (.dec true) :: q_ :: qt0 :: qt0 :: qt0 :: qn (.dec true) :: q_ :: qt0 :: qt0 :: qt0 :: qn (.dec true) :: q_ :: qf0 :: qf0 :: qn (.dec false) :: (qz 25 [])) (aC hx2001 (aC hx2001 (aC hx2001 (aC hx2001 (aC hx2002 (aC hx2002 (aC hx2002 (aC hx2002 (aC hx2003 (aC hx2003 (aC hx2003 (aC hx2003 (aC hx2004 (aC hx2004 (aC hx2004 (aC hx2004 (aC hx2005 (aC hx2005 (aC hx2005 (aC hx2005 (aC hx2006 (aC hx2006 (aC hx2006 aN))))))))))))))))))))))) (by kernel_rfl) ?_
 refine W_ret ?_
 exact kr [] _ _ (by kernel_rfl) (oinj h)
 refine W_z mixed [(10, aB false)] [] [] c0 (q_ :: q_ :: q_ :: q_ :: qt0 :: qt0 :: qt0 :: qn (.dec true) :: q_ :: qt0 :: qt0 :: qt0 :: qn (.dec true) :: q_ :: qt0 :: qt0 :: qt0 :: qn (.dec true) :: q_ :: qt0 :: qt0 :: qt0 :: qn (.dec true) :: q_ :: qf0 :: qf0 :: qf0 :: qn (.dec false) :: (qz 29 [])) (aC hx2001 (aC hx2001 (aC hx2001 (aC hx2001 (aC hx2002 (aC hx2002 (aC hx2002 (aC hx2002 (aC hx2003 (aC hx2003 (aC hx2003 (aC hx2003 (aC hx2004 (aC hx2004 (aC hx2004 (aC hx2004 (aC hx2005 (aC hx2005 (aC hx2005 (aC hx2005 aN)))))))))))))))))))) (by kernel_rfl) ?_
 refine W_ret ?_
 exact kr [] _ _ (by kernel_rfl) (oinj h)
 refine W_z mixed [(10, aB false)] [] [] c0 (q_ :: q_ :: q_ :: q_ :: qt0 :: qt0 :: qt0 :: qn (.dec true) :: q_ :: qt0 :: qt0 :: qt0 :: qn (.dec true) :: q_ :: qt0 :: qt0 :: qt0 :: qn (.dec true) :: q_ :: qf0 :: qf0 :: qf0 :: qn (.dec false) :: (qz 34 [])) (aC hx2001 (aC hx2001 (aC hx2001 (aC hx2001 (aC hx2002 (aC hx2002 (aC hx2002 (aC hx2002 (aC hx2003 (aC hx2003 (aC hx2003 (aC hx2003 (aC hx2004 (aC hx2004 (aC hx2004 (aC hx2004 aN)))))))))))))))) (by kernel_rfl) ?_
 refine W_ret ?_
 exact kr [] _ _ (by kernel_rfl) (oinj h)
 refine W_z mixed [(10, aB false)] [] [] c0 (q_ :: q_ :: q_ :: q_ :: qt0 :: qt0 :: qt0 :: qn (.dec true) :: q_ :: qt0 :: qt0 :: qt0 :: qn (.dec true) :: q_ :: qf0 :: qf0 :: qf0 :: qn (.dec false) :: (qz 39 [])) (aC hx2001 (aC hx2001 (aC hx2001 (aC hx2001 (aC hx2002 (aC hx2002 (aC hx2002 (aC hx2002 (aC hx2003 (aC hx2003 (aC hx2003 (aC hx2003 aN)))))))))))) (by kernel_rfl) ?_
 refine W_ret ?_
 exact kr [] _ _ (by kernel_rfl) (oinj h)
 refine W_z mixed [(10, aB false)] [] [] c0 (q_ :: q_ :: q_ :: q_ :: qt0 :: qt0 :: qt0 :: qn (.dec true) :: q_ :: qf0 :: qf0 :: qf0 :: qn (.dec false) :: (qz 44 [])) (aC hx2001 (aC hx2001 (aC hx2001 (aC hx2001 (aC hx2002 (aC hx2002 (aC hx2002 (aC hx2002 aN)))))))) (by kernel_rfl) ?_
 refine W_ret ?_
 exact kr [] _ _ (by kernel_rfl) (oinj h)
 refine W_z mixed [(10, aB false)] [] [] c0 (q_ :: q_ :: q_ :: q_ :: qf0 :: qf0 :: qf0 :: qn (.dec false) :: (qz 49 [])) (aC hx2001 (aC hx2001 (aC hx2001 (aC hx2001 aN)))) (by kernel_rfl) ?_
 refine W_ret ?_
 exact kr [] _ _ (by kernel_rfl) (oinj h)
noncomputable def hindcastlaw13_OperFeeds (a0 : (List Int)) (a1 : (List Int)) (a2 : Int) (a3 : Int) (a4 : Int) : Option Bool :=
  (if (a0.length : Int) > 100 then hindcastlaw13_OperFeeds_j0 else (if (a1.length : Int) > 100 then hindcastlaw13_OperFeeds_j0 else ((oper_New a0 a1 a2 a3).bind fun (r3_4 : (Option GOperFeed)) => optCase r3_4 ((oper_Feed_Gone_n ()).bind fun (rn4_1 : (Int × Int)) => (if rn4_1.1 = (if (a0.length : Int) < (if a2 < 0 then 0 else a2) then (a0.length : Int) else (if a2 < 0 then 0 else a2)) then (if rn4_1.2 = (if (a1.length : Int) < (if a3 < 0 then 0 else a3) then (a1.length : Int) else (if a3 < 0 then 0 else a3)) then ((oper_Feed_Copy_n ()).bind fun (rn7_1 : (Option GOperFeed)) => ((oper_Feed_Read_n ()).bind fun (rn8_1 : (Int × Bool)) => ((oper_Feed_Draw_n () a4).bind fun (rn9_2 : (Int × Int)) => none))) else (some false)) else (some false))) fun (y3_4 : GOperFeed) => ((oper_Feed_Gone y3_4).bind fun (r4_1 : (Int × Int)) => (if r4_1.1 = (if (a0.length : Int) < (if a2 < 0 then 0 else a2) then (a0.length : Int) else (if a2 < 0 then 0 else a2)) then (if r4_1.2 = (if (a1.length : Int) < (if a3 < 0 then 0 else a3) then (a1.length : Int) else (if a3 < 0 then 0 else a3)) then ((oper_Feed_Copy y3_4).bind fun (r7_1 : (Option GOperFeed)) => optCase r7_1 ((oper_Feed_Read y3_4).bind fun (r8_1 : (Int × Bool × GOperFeed)) => ((oper_Feed_Draw r8_1.2.2 a4).bind fun (r9_2 : (Int × Int × GOperFeed)) => ((oper_Feed_Gone_n ()).bind fun (rn10_1 : (Int × Int)) => ((oper_Feed_Read_n ()).bind fun (rn11_1 : (Int × Bool)) => ((oper_Feed_Draw_n () a4).bind fun (rn12_2 : (Int × Int)) => hindcastlaw13_OperFeeds_j1 a4 r4_1 r8_1 r9_2 rn10_1.1 rn10_1.2 rn11_1.1 rn11_1.2 rn12_2.1 rn12_2.2))))) fun (y7_1 : GOperFeed) => ((oper_Feed_Read y3_4).bind fun (r8_1 : (Int × Bool × GOperFeed)) => ((oper_Feed_Draw r8_1.2.2 a4).bind fun (r9_2 : (Int × Int × GOperFeed)) => ((oper_Feed_Gone y7_1).bind fun (r10_1 : (Int × Int)) => ((oper_Feed_Read y7_1).bind fun (r11_1 : (Int × Bool × GOperFeed)) => ((oper_Feed_Draw r11_1.2.2 a4).bind fun (r12_2 : (Int × Int × GOperFeed)) => hindcastlaw13_OperFeeds_j1 a4 r4_1 r8_1 r9_2 r10_1.1 r10_1.2 r11_1.1 r11_1.2.1 r12_2.1 r12_2.2.1)))))) else (some false)) else (some false))))))
set_option maxRecDepth 100000 in
theorem hindcastlaw13_OperFeeds_ok {a0 : (List Int)} {a1 : (List Int)} {a2 : Int} {a3 : Int} {a4 : Int} {r_ : Bool} (h : hindcastlaw13_OperFeeds a0 a1 a2 a3 a4 = some r_) : R_hindcastlaw13_OperFeeds a0 a1 a2 a3 a4 r_ := by
 unfold hindcastlaw13_OperFeeds at h
 refine fn_pureZ (enc := hindcastlaw13_OperFeeds_e) (by kernel_rfl) fun Q' kr kn => ?_
 refine W_z mixed [] [0, 1, 2, 3, 4] [] c0 [q_] aN (by kernel_rfl) ?_
 refine W_seq ?_
 refine if_c h (fun hx1 h => ?_) (fun hx1 h => ?_)
 refine W_z mixed [(39, aB true)] [0, 1, 2, 3, 4] [] c0 [q_, qn (.len a0.length), q_, q_, qt0, qt0, qt0, qn (.dec true)] (aC (len_obx c_i64 a0) (aC hx1 (aC hx1 (aC hx1 (aC hx1 aN))))) (by kernel_rfl) ?_
 refine W_ct (e := true) rfl (by kernel_rfl) ?_
 exact W_conv (c0 []) (by kernel_rfl) (hindcastlaw13_OperFeeds_j0_ok r_ _ kr h)
 refine W_z mixed [(39, aB (decide ((a1.length : Int) > 100)))] [0, 1, 2, 3, 4] [] c0 [q_, qn (.len a0.length), q_, q_, qf0, qf (.len a1.length), qf0, qn (.dec false)] (aC (len_obx c_i64 a0) (aC hx1 (aC hx1 (aC (len_obx c_i64 a1) (aC hx1 (aC hx1 aN)))))) (by kernel_rfl) ?_
 refine W_cd h (by kernel_rfl) (fun hx2 h => ?_) (fun hx2 h => ?_)
 exact W_conv (c0 []) (by kernel_rfl) (hindcastlaw13_OperFeeds_j0_ok r_ _ kr h)
 refine W_skip ?_
 obtain ⟨r3_4, hr3_4, h⟩ := bind_ok h
 have hr3_4 := oper_New_ok hr3_4
 unfold RI_oper_New at hr3_4
 rcases hc_y3_4 : r3_4 with _ | y3_4
 rw [hc_y3_4] at hr3_4
 have h := oc_nx hc_y3_4 h
 refine W_z mixed [(11, aPnil)] [0, 1, 2, 3, 4] [] c0 [q_, q_, q_, q_, qn (.io ⟨[], [], [], [], [], [], []⟩ (aPnil) []), q_] (aC hr3_4 aN) (by kernel_rfl) ?_
 obtain ⟨rn4_1, hrn4_1, h⟩ := bind_ok h
 have hrn4_1 := oper_Feed_Gone_n_ok hrn4_1
 refine W_z mixed [(12, aI .i64 rn4_1.1), (13, aI .i64 rn4_1.2)] [0, 1, 2, 3, 4, 11] [] c0 [q_, qn (.call [] (.tup [aI .i64 rn4_1.1, aI .i64 rn4_1.2])), q_, q_, q_, q_, q_] (aC hrn4_1 aN) (by kernel_rfl) ?_
 refine W_seq ?_
 refine if_c h (fun hx3 h => ?_) (fun hx3 h => ?_)
 refine W_z mixed [(66, aB (!(decide (rn4_1.2 = (if (a1.length : Int) < (if a3 < 0 then 0 else a3) then (a1.length : Int) else (if a3 < 0 then 0 else a3))))))] [4, 11, 12, 13] [] c0 [q_, q_, qn (.quiet (aI .i64 (if a2 < 0 then 0 else a2))), q_, qn (.len a0.length), qn (.quiet (aI .i64 (if (a0.length : Int) < (if a2 < 0 then 0 else a2) then (a0.length : Int) else (if a2 < 0 then 0 else a2)))), q_, q_, qf0, qf0, qf (.quiet (aI .i64 (if a3 < 0 then 0 else a3))), qf0, qf (.len a1.length), qf (.quiet (aI .i64 (if (a1.length : Int) < (if a3 < 0 then 0 else a3) then (a1.length : Int) else (if a3 < 0 then 0 else a3)))), qf0, qn (.dec false)] (aC (show Quiet Try.prog (opAt (subC (bodyC Try.prog 4) [1, 1, 1, 1, 0, 0]) 2) [aI .i64 a2, aI .i64 0] (aI .i64 (if a2 < 0 then 0 else a2)) from max_ob (by rfl) (by rfl) (by rfl)) (aC (len_obx c_i64 a0) (aC (show Quiet Try.prog (opAt (subC (bodyC Try.prog 4) [1, 1, 1, 1, 0, 0]) 5) [aI .i64 (if a2 < 0 then 0 else a2), aI .i64 (a0.length : Int)] (aI .i64 (if (a0.length : Int) < (if a2 < 0 then 0 else a2) then (a0.length : Int) else (if a2 < 0 then 0 else a2))) from min_ob (by rfl) (by rfl) (by rfl)) (aC (not_t hx3) (aC (not_t hx3) (aC (not_t hx3) (aC (show Quiet Try.prog (opAt (subC (bodyC Try.prog 4) [1, 1, 1, 1, 0, 0]) 10) [aI .i64 a3, aI .i64 0] (aI .i64 (if a3 < 0 then 0 else a3)) from max_ob (by rfl) (by rfl) (by rfl)) (aC (not_t hx3) (aC (not_t hx3) (aC (len_obx c_i64 a1) (aC (not_t hx3) (aC (show Quiet Try.prog (opAt (subC (bodyC Try.prog 4) [1, 1, 1, 1, 0, 0]) 13) [aI .i64 (if a3 < 0 then 0 else a3), aI .i64 (a1.length : Int)] (aI .i64 (if (a1.length : Int) < (if a3 < 0 then 0 else a3) then (a1.length : Int) else (if a3 < 0 then 0 else a3))) from min_ob (by rfl) (by rfl) (by rfl)) (aC (not_t hx3) (aC (not_t hx3) aN)))))))))))))) (by kernel_rfl) ?_
 refine W_cdn h (by kernel_rfl) (fun hx4 h => ?_) (fun hx4 h => ?_)
 refine W_skip ?_
 obtain ⟨rn7_1, hrn7_1, h⟩ := bind_ok h
 have hrn7_1 := oper_Feed_Copy_n_ok hrn7_1
 refine W_z mixed [(14, .t (tP c_GOperFeed rn7_1))] [4, 11, 12, 13] [] c0 [q_, qn (.call [] (.t (tP c_GOperFeed rn7_1))), q_] (aC hrn7_1 aN) (by kernel_rfl) ?_
 obtain ⟨rn8_1, hrn8_1, h⟩ := bind_ok h
 have hrn8_1 := oper_Feed_Read_n_ok hrn8_1
 refine W_z mixed [(15, aI .i64 rn8_1.1), (16, aB rn8_1.2)] [4, 11, 12, 13, 14] [] c0 [q_, qn (.call [] (.tup [aI .i64 rn8_1.1, aB rn8_1.2])), q_, q_, q_, q_, q_] (aC hrn8_1 aN) (by kernel_rfl) ?_
 obtain ⟨rn9_2, hrn9_2, h⟩ := bind_ok h
 have hrn9_2 := oper_Feed_Draw_n_ok hrn9_2
 refine W_z mixed [(17, aI .i64 rn9_2.1), (18, aI .u8 rn9_2.2)] [4, 12, 13, 14, 15, 16] [] c0 [q_, q_, qn (.call [] (.tup [aI .i64 rn9_2.1, aI .u8 rn9_2.2])), q_, q_, q_, q_, q_] (aC hrn9_2 aN) (by kernel_rfl) ?_
 cases h
 refine W_z mixed [(10, aB false)] [] [] c0 [q_] aN (by kernel_rfl) ?_
 refine W_ret ?_
 exact kr [] _ _ (by kernel_rfl) (oinj h)
 refine W_z mixed [(66, aB true)] [4, 11, 12, 13] [] c0 [q_, q_, qn (.quiet (aI .i64 (if a2 < 0 then 0 else a2))), q_, qn (.len a0.length), qn (.quiet (aI .i64 (if (a0.length : Int) < (if a2 < 0 then 0 else a2) then (a0.length : Int) else (if a2 < 0 then 0 else a2)))), q_, q_, qt0, qt0, qt0, qt0, qt0, qt0, qt0, qn (.dec true)] (aC (show Quiet Try.prog (opAt (subC (bodyC Try.prog 4) [1, 1, 1, 1, 0, 0]) 2) [aI .i64 a2, aI .i64 0] (aI .i64 (if a2 < 0 then 0 else a2)) from max_ob (by rfl) (by rfl) (by rfl)) (aC (len_obx c_i64 a0) (aC (show Quiet Try.prog (opAt (subC (bodyC Try.prog 4) [1, 1, 1, 1, 0, 0]) 5) [aI .i64 (if a2 < 0 then 0 else a2), aI .i64 (a0.length : Int)] (aI .i64 (if (a0.length : Int) < (if a2 < 0 then 0 else a2) then (a0.length : Int) else (if a2 < 0 then 0 else a2))) from min_ob (by rfl) (by rfl) (by rfl)) (aC (not_f hx3) (aC (not_f hx3) (aC (not_f hx3) (aC (not_f hx3) (aC (not_f hx3) (aC (not_f hx3) (aC (not_f hx3) (aC (not_f hx3) aN))))))))))) (by kernel_rfl) ?_
 refine W_ct (e := true) rfl (by kernel_rfl) ?_
 refine W_z mixed [(10, aB false)] [] [] c0 [q_] aN (by kernel_rfl) ?_
 refine W_ret ?_
 exact kr [] _ _ (by kernel_rfl) (oinj h)
 rw [hc_y3_4] at hr3_4
 have h := oc_sx hc_y3_4 h
 refine W_z mixed [(11, .ptr 45 0)] [0, 1, 2, 3, 4] [(45, some (.box 80 [.t (.sl 1 (y3_4.in_.map c_i64)), .t (.sl 1 (y3_4.draws_.map c_i64)), aI .i64 y3_4.read_, aI .i64 y3_4.drawn_]))] (cB [45] []) [q_, q_, q_, q_, qn (.io ⟨[], [], [], [], [], [], [(24, 45)]⟩ (.ptr 24 0) [(24, .box 80 [.t (.sl 1 (y3_4.in_.map c_i64)), .t (.sl 1 (y3_4.draws_.map c_i64)), aI .i64 y3_4.read_, aI .i64 y3_4.drawn_])]), q_] (aC hr3_4 aN) (by kernel_rfl) ?_
 obtain ⟨r4_1, hr4_1, h⟩ := bind_ok h
 have hr4_1 := oper_Feed_Gone_ok hr4_1
 refine W_z mixed [(12, aI .i64 r4_1.1), (13, aI .i64 r4_1.2)] [0, 1, 2, 3, 4, 11] [k_ 45] (cB [45] []) [q_, qn (.io ⟨[(45, 900)], [], [], [], [], [], [(900, 45)]⟩ (.tup [aI .i64 r4_1.1, aI .i64 r4_1.2]) [(900, .box 80 [.t (.sl 1 (y3_4.in_.map c_i64)), .t (.sl 1 (y3_4.draws_.map c_i64)), aI .i64 y3_4.read_, aI .i64 y3_4.drawn_])]), q_, q_, q_, q_, q_] (aC hr4_1 aN) (by kernel_rfl) ?_
 refine W_seq ?_
 refine if_c h (fun hx5 h => ?_) (fun hx5 h => ?_)
 refine W_z mixed [(66, aB (!(decide (r4_1.2 = (if (a1.length : Int) < (if a3 < 0 then 0 else a3) then (a1.length : Int) else (if a3 < 0 then 0 else a3))))))] [4, 11, 12, 13] [k_ 45] (cB [45] []) [q_, q_, qn (.quiet (aI .i64 (if a2 < 0 then 0 else a2))), q_, qn (.len a0.length), qn (.quiet (aI .i64 (if (a0.length : Int) < (if a2 < 0 then 0 else a2) then (a0.length : Int) else (if a2 < 0 then 0 else a2)))), q_, q_, qf0, qf0, qf (.quiet (aI .i64 (if a3 < 0 then 0 else a3))), qf0, qf (.len a1.length), qf (.quiet (aI .i64 (if (a1.length : Int) < (if a3 < 0 then 0 else a3) then (a1.length : Int) else (if a3 < 0 then 0 else a3)))), qf0, qn (.dec false)] (aC (show Quiet Try.prog (opAt (subC (bodyC Try.prog 4) [1, 1, 1, 1, 0, 0]) 2) [aI .i64 a2, aI .i64 0] (aI .i64 (if a2 < 0 then 0 else a2)) from max_ob (by rfl) (by rfl) (by rfl)) (aC (len_obx c_i64 a0) (aC (show Quiet Try.prog (opAt (subC (bodyC Try.prog 4) [1, 1, 1, 1, 0, 0]) 5) [aI .i64 (if a2 < 0 then 0 else a2), aI .i64 (a0.length : Int)] (aI .i64 (if (a0.length : Int) < (if a2 < 0 then 0 else a2) then (a0.length : Int) else (if a2 < 0 then 0 else a2))) from min_ob (by rfl) (by rfl) (by rfl)) (aC (not_t hx5) (aC (not_t hx5) (aC (not_t hx5) (aC (show Quiet Try.prog (opAt (subC (bodyC Try.prog 4) [1, 1, 1, 1, 0, 0]) 10) [aI .i64 a3, aI .i64 0] (aI .i64 (if a3 < 0 then 0 else a3)) from max_ob (by rfl) (by rfl) (by rfl)) (aC (not_t hx5) (aC (not_t hx5) (aC (len_obx c_i64 a1) (aC (not_t hx5) (aC (show Quiet Try.prog (opAt (subC (bodyC Try.prog 4) [1, 1, 1, 1, 0, 0]) 13) [aI .i64 (if a3 < 0 then 0 else a3), aI .i64 (a1.length : Int)] (aI .i64 (if (a1.length : Int) < (if a3 < 0 then 0 else a3) then (a1.length : Int) else (if a3 < 0 then 0 else a3))) from min_ob (by rfl) (by rfl) (by rfl)) (aC (not_t hx5) (aC (not_t hx5) aN)))))))))))))) (by kernel_rfl) ?_
 refine W_cdn h (by kernel_rfl) (fun hx6 h => ?_) (fun hx6 h => ?_)
 refine W_skip ?_
 obtain ⟨r7_1, hr7_1, h⟩ := bind_ok h
 have hr7_1 := oper_Feed_Copy_ok hr7_1
 unfold RI_oper_Feed_Copy at hr7_1
 rcases hc_y7_1 : r7_1 with _ | y7_1
 rw [hc_y7_1] at hr7_1
 have h := oc_nx hc_y7_1 h
 refine W_z mixed [(14, aPnil)] [4, 11, 12, 13] [k_ 45] (cB [45] []) [q_, qn (.io ⟨[(45, 900)], [], [], [], [], [], [(900, 45)]⟩ (aPnil) [(900, .box 80 [.t (.sl 1 (y3_4.in_.map c_i64)), .t (.sl 1 (y3_4.draws_.map c_i64)), aI .i64 y3_4.read_, aI .i64 y3_4.drawn_])]), q_] (aC hr7_1 aN) (by kernel_rfl) ?_
 obtain ⟨r8_1, hr8_1, h⟩ := bind_ok h
 have hr8_1 := oper_Feed_Read_ok hr8_1
 refine W_z mixed [(15, aI .i64 r8_1.1), (16, aB r8_1.2.1)] [4, 11, 12, 13, 14] [(45, some (.box 80 [.t (.sl 1 (r8_1.2.2.in_.map c_i64)), .t (.sl 1 (r8_1.2.2.draws_.map c_i64)), aI .i64 r8_1.2.2.read_, aI .i64 r8_1.2.2.drawn_]))] (cB [45] []) [q_, qn (.io ⟨[(45, 900)], [], [], [], [], [], [(900, 45)]⟩ (.tup [aI .i64 r8_1.1, aB r8_1.2.1]) [(900, .box 80 [.t (.sl 1 (r8_1.2.2.in_.map c_i64)), .t (.sl 1 (r8_1.2.2.draws_.map c_i64)), aI .i64 r8_1.2.2.read_, aI .i64 r8_1.2.2.drawn_])]), q_, q_, q_, q_, q_] (aC hr8_1 aN) (by kernel_rfl) ?_
 obtain ⟨r9_2, hr9_2, h⟩ := bind_ok h
 have hr9_2 := oper_Feed_Draw_ok hr9_2
 refine W_z mixed [(17, aI .i64 r9_2.1), (18, aI .u8 r9_2.2.1)] [4, 12, 13, 14, 15, 16] [] c0 [q_, q_, qn (.io ⟨[(45, 900)], [], [], [], [], [], [(900, 45)]⟩ (.tup [aI .i64 r9_2.1, aI .u8 r9_2.2.1]) [(900, .box 80 [.t (.sl 1 (r9_2.2.2.in_.map c_i64)), .t (.sl 1 (r9_2.2.2.draws_.map c_i64)), aI .i64 r9_2.2.2.read_, aI .i64 r9_2.2.2.drawn_])]), q_, q_, q_, q_, q_] (aC hr9_2 aN) (by kernel_rfl) ?_
 obtain ⟨rn10_1, hrn10_1, h⟩ := bind_ok h
 have hrn10_1 := oper_Feed_Gone_n_ok hrn10_1
 refine W_z mixed [(19, aI .i64 rn10_1.1), (20, aI .i64 rn10_1.2)] [4, 12, 13, 14, 15, 16, 17, 18] [] c0 [q_, qn (.call [] (.tup [aI .i64 rn10_1.1, aI .i64 rn10_1.2])), q_, q_, q_, q_, q_] (aC hrn10_1 aN) (by kernel_rfl) ?_
 obtain ⟨rn11_1, hrn11_1, h⟩ := bind_ok h
 have hrn11_1 := oper_Feed_Read_n_ok hrn11_1
 refine W_z mixed [(21, aI .i64 rn11_1.1), (22, aB rn11_1.2)] [4, 12, 13, 14, 15, 16, 17, 18, 19, 20] [] c0 [q_, qn (.call [] (.tup [aI .i64 rn11_1.1, aB rn11_1.2])), q_, q_, q_, q_, q_] (aC hrn11_1 aN) (by kernel_rfl) ?_
 obtain ⟨rn12_2, hrn12_2, h⟩ := bind_ok h
 have hrn12_2 := oper_Feed_Draw_n_ok hrn12_2
 refine W_z mixed [(23, aI .i64 rn12_2.1), (24, aI .u8 rn12_2.2)] [4, 12, 13, 15, 16, 17, 18, 19, 20, 21, 22] [] c0 [q_, q_, qn (.call [] (.tup [aI .i64 rn12_2.1, aI .u8 rn12_2.2])), q_, q_, q_, q_, q_] (aC hrn12_2 aN) (by kernel_rfl) ?_
 exact W_conv (c0 [4, 12, 13, 15, 16, 17, 18, 19, 20, 21, 22, 23, 24]) (by kernel_rfl) (hindcastlaw13_OperFeeds_j1_ok a4 r4_1 r8_1 r9_2 rn10_1.1 rn10_1.2 rn11_1.1 rn11_1.2 rn12_2.1 rn12_2.2 r_ _ kr h)
 rw [hc_y7_1] at hr7_1
 have h := oc_sx hc_y7_1 h
 refine W_z mixed [(14, .ptr 68 0)] [4, 11, 12, 13] [k_ 45, (68, some (.box 80 [.t (.sl 1 (y7_1.in_.map c_i64)), .t (.sl 1 (y7_1.draws_.map c_i64)), aI .i64 y7_1.read_, aI .i64 y7_1.drawn_]))] (cB [45, 68] []) [q_, qn (.io ⟨[(45, 900)], [], [], [], [], [], [(900, 45), (3, 68)]⟩ (.ptr 3 0) [(3, .box 80 [.t (.sl 1 (y7_1.in_.map c_i64)), .t (.sl 1 (y7_1.draws_.map c_i64)), aI .i64 y7_1.read_, aI .i64 y7_1.drawn_]), (900, .box 80 [.t (.sl 1 (y3_4.in_.map c_i64)), .t (.sl 1 (y3_4.draws_.map c_i64)), aI .i64 y3_4.read_, aI .i64 y3_4.drawn_])]), q_] (aC hr7_1 aN) (by kernel_rfl) ?_
 obtain ⟨r8_1, hr8_1, h⟩ := bind_ok h
 have hr8_1 := oper_Feed_Read_ok hr8_1
 refine W_z mixed [(15, aI .i64 r8_1.1), (16, aB r8_1.2.1)] [4, 11, 12, 13, 14] [(45, some (.box 80 [.t (.sl 1 (r8_1.2.2.in_.map c_i64)), .t (.sl 1 (r8_1.2.2.draws_.map c_i64)), aI .i64 r8_1.2.2.read_, aI .i64 r8_1.2.2.drawn_])), k_ 68] (cB [45, 68] []) [q_, qn (.io ⟨[(45, 900)], [], [], [], [], [], [(900, 45)]⟩ (.tup [aI .i64 r8_1.1, aB r8_1.2.1]) [(900, .box 80 [.t (.sl 1 (r8_1.2.2.in_.map c_i64)), .t (.sl 1 (r8_1.2.2.draws_.map c_i64)), aI .i64 r8_1.2.2.read_, aI .i64 r8_1.2.2.drawn_])]), q_, q_, q_, q_, q_] (aC hr8_1 aN) (by kernel_rfl) ?_
 obtain ⟨r9_2, hr9_2, h⟩ := bind_ok h
 have hr9_2 := oper_Feed_Draw_ok hr9_2
 refine W_z mixed [(17, aI .i64 r9_2.1), (18, aI .u8 r9_2.2.1)] [4, 12, 13, 14, 15, 16] [k_ 68] (cB [68] []) [q_, q_, qn (.io ⟨[(45, 900)], [], [], [], [], [], [(900, 45)]⟩ (.tup [aI .i64 r9_2.1, aI .u8 r9_2.2.1]) [(900, .box 80 [.t (.sl 1 (r9_2.2.2.in_.map c_i64)), .t (.sl 1 (r9_2.2.2.draws_.map c_i64)), aI .i64 r9_2.2.2.read_, aI .i64 r9_2.2.2.drawn_])]), q_, q_, q_, q_, q_] (aC hr9_2 aN) (by kernel_rfl) ?_
 obtain ⟨r10_1, hr10_1, h⟩ := bind_ok h
 have hr10_1 := oper_Feed_Gone_ok hr10_1
 refine W_z mixed [(19, aI .i64 r10_1.1), (20, aI .i64 r10_1.2)] [4, 12, 13, 14, 15, 16, 17, 18] [k_ 68] (cB [68] []) [q_, qn (.io ⟨[(68, 900)], [], [], [], [], [], [(900, 68)]⟩ (.tup [aI .i64 r10_1.1, aI .i64 r10_1.2]) [(900, .box 80 [.t (.sl 1 (y7_1.in_.map c_i64)), .t (.sl 1 (y7_1.draws_.map c_i64)), aI .i64 y7_1.read_, aI .i64 y7_1.drawn_])]), q_, q_, q_, q_, q_] (aC hr10_1 aN) (by kernel_rfl) ?_
 obtain ⟨r11_1, hr11_1, h⟩ := bind_ok h
 have hr11_1 := oper_Feed_Read_ok hr11_1
 refine W_z mixed [(21, aI .i64 r11_1.1), (22, aB r11_1.2.1)] [4, 12, 13, 14, 15, 16, 17, 18, 19, 20] [(68, some (.box 80 [.t (.sl 1 (r11_1.2.2.in_.map c_i64)), .t (.sl 1 (r11_1.2.2.draws_.map c_i64)), aI .i64 r11_1.2.2.read_, aI .i64 r11_1.2.2.drawn_]))] (cB [68] []) [q_, qn (.io ⟨[(68, 900)], [], [], [], [], [], [(900, 68)]⟩ (.tup [aI .i64 r11_1.1, aB r11_1.2.1]) [(900, .box 80 [.t (.sl 1 (r11_1.2.2.in_.map c_i64)), .t (.sl 1 (r11_1.2.2.draws_.map c_i64)), aI .i64 r11_1.2.2.read_, aI .i64 r11_1.2.2.drawn_])]), q_, q_, q_, q_, q_] (aC hr11_1 aN) (by kernel_rfl) ?_
 obtain ⟨r12_2, hr12_2, h⟩ := bind_ok h
 have hr12_2 := oper_Feed_Draw_ok hr12_2
 refine W_z mixed [(23, aI .i64 r12_2.1), (24, aI .u8 r12_2.2.1)] [4, 12, 13, 15, 16, 17, 18, 19, 20, 21, 22] [] c0 [q_, q_, qn (.io ⟨[(68, 900)], [], [], [], [], [], [(900, 68)]⟩ (.tup [aI .i64 r12_2.1, aI .u8 r12_2.2.1]) [(900, .box 80 [.t (.sl 1 (r12_2.2.2.in_.map c_i64)), .t (.sl 1 (r12_2.2.2.draws_.map c_i64)), aI .i64 r12_2.2.2.read_, aI .i64 r12_2.2.2.drawn_])]), q_, q_, q_, q_, q_] (aC hr12_2 aN) (by kernel_rfl) ?_
 exact W_conv (c0 [4, 12, 13, 15, 16, 17, 18, 19, 20, 21, 22, 23, 24]) (by kernel_rfl) (hindcastlaw13_OperFeeds_j1_ok a4 r4_1 r8_1 r9_2 r10_1.1 r10_1.2 r11_1.1 r11_1.2.1 r12_2.1 r12_2.2.1 r_ _ kr h)
 refine W_z mixed [(10, aB false)] [] [] c0 [q_] aN (by kernel_rfl) ?_
 refine W_ret ?_
 exact kr [] _ _ (by kernel_rfl) (oinj h)
 refine W_z mixed [(66, aB true)] [4, 11, 12, 13] [k_ 45] (cB [45] []) [q_, q_, qn (.quiet (aI .i64 (if a2 < 0 then 0 else a2))), q_, qn (.len a0.length), qn (.quiet (aI .i64 (if (a0.length : Int) < (if a2 < 0 then 0 else a2) then (a0.length : Int) else (if a2 < 0 then 0 else a2)))), q_, q_, qt0, qt0, qt0, qt0, qt0, qt0, qt0, qn (.dec true)] (aC (show Quiet Try.prog (opAt (subC (bodyC Try.prog 4) [1, 1, 1, 1, 0, 0]) 2) [aI .i64 a2, aI .i64 0] (aI .i64 (if a2 < 0 then 0 else a2)) from max_ob (by rfl) (by rfl) (by rfl)) (aC (len_obx c_i64 a0) (aC (show Quiet Try.prog (opAt (subC (bodyC Try.prog 4) [1, 1, 1, 1, 0, 0]) 5) [aI .i64 (if a2 < 0 then 0 else a2), aI .i64 (a0.length : Int)] (aI .i64 (if (a0.length : Int) < (if a2 < 0 then 0 else a2) then (a0.length : Int) else (if a2 < 0 then 0 else a2))) from min_ob (by rfl) (by rfl) (by rfl)) (aC (not_f hx5) (aC (not_f hx5) (aC (not_f hx5) (aC (not_f hx5) (aC (not_f hx5) (aC (not_f hx5) (aC (not_f hx5) (aC (not_f hx5) aN))))))))))) (by kernel_rfl) ?_
 refine W_ct (e := true) rfl (by kernel_rfl) ?_
 refine W_z mixed [(10, aB false)] [] [] c0 [q_] aN (by kernel_rfl) ?_
 refine W_ret ?_
 exact kr [] _ _ (by kernel_rfl) (oinj h)
inductive hindcastref11_Load_C where
  | l0 (a0 : Int) (a1 : (List GApiObj)) (v0_20_0 : Int)
  | j1 (a0 : Int) (a1 : (List GApiObj))
  | l2 (a0 : Int) (a1 : (List GApiObj)) (v2_33_0 : Int) (m2_6_1 : Int)
  | j3 (a1 : (List GApiObj)) (a0 : Int) (m2_6_1 : Int)
inductive hindcastref11_Great_C where
  | l0 (a0 : (List GApiObj)) (v0_3_0 : Int) (v0_7_0 : Int)
  | j1
end Go.Proofs.Ytmffhifkdbfbfaa
