/- Functions of the program, lifted. -/
import Derived.Test.YtcmpcbpdnaodmaaCodeOver
import Derived.Test.YtcmpcbpdnaodmaaCodeOver
namespace Go.Proofs.Ytcmpcbpdnaodmaa
open Go.RowKit
set_option linter.unusedVariables false
set_option maxHeartbeats 4000000
def R_hindcastlaw15_CodeWrites (a0 : GApiCode) (r : Bool) : Prop := FnP Try.prog 3 [e_GApiCode a0] (aB r)
noncomputable def hindcastlaw15_CodeWrites (a0 : GApiCode) : Option Bool :=
  ((xhindcastref15_Great a0).bind fun (r1_1 : Bool) => (if r1_1 = true then ((xhindcastlaw15_awake).bind fun (r2_0 : Bool) => (some r2_0)) else ((xcode_Encode a0).bind fun (r3_1 : ((List Int) × Int)) => ((xhindcastref15_May a0).bind fun (r4_1 : Bool) => (if r4_1 = true then ((xcode_Decode r3_1.1).bind fun (r6_1 : (GApiCode × Int)) => ((xcode_May a0).bind fun (r7_1 : Bool) => (if r7_1 = true then (if r3_1.2 = 0 then (if BytesOb r3_1.1 then ((xhindcastref15_Encode a0).bind fun (r7_10 : (List Int)) => (if BytesOb r7_10 then (if (bytesS r3_1.1) = (bytesS r7_10) then (if r6_1.2 = 0 then ((xhindcastref15_Same a0 r6_1.1).bind fun (r7_21 : Bool) => (if r7_21 = true then ((xhindcastlaw15_awake).bind fun (r7_24 : Bool) => (some r7_24)) else (some false))) else (some false)) else (some false)) else none)) else none) else (some false)) else (some false)))) else ((xcode_May a0).bind fun (r5_1 : Bool) => (if r5_1 = true then (some false) else (if (r3_1.1.length : Int) = 0 then (if r3_1.2 = 1 then ((xhindcastlaw15_awake).bind fun (r5_13 : Bool) => (some r5_13)) else (some false)) else (some false)))))))))
set_option maxRecDepth 100000 in
theorem hindcastlaw15_CodeWrites_ok {a0 : GApiCode} {r_ : Bool} (h : hindcastlaw15_CodeWrites a0 = some r_) : R_hindcastlaw15_CodeWrites a0 r_ := by
  unfold hindcastlaw15_CodeWrites at h
  refine fn_pureX (fn := Try.f3) (by kernel_rfl) (c := subC (bodyC Try.prog 3) []) (by kernel_rfl) (by kernel_rfl) (Nat.le_of_ble_eq_true (by kernel_rfl)) ?_
  generalize hQ' : retQ Try.prog Try.f3 (aB r_) = Q'
  have kr : ∀ (ns : List (Nat × Nat × Nat)) (s : LS) (x : Bool), retX Try.prog ns [.tmp 2] s = some (aB x) → x = r_ → Q' .ret s.st := by subst hQ'; intro ns s x hx hq; subst hq; exact ret_ok (fn := Try.f3) ns hx
  change W Try.prog _ (LS.mk 64 [(0, e_GApiCode a0)] []).st Q'
  refine W_seq ?_
  refine W_y (s' := LS.mk 64 [(1, .ptr 1 0)] [(1, some (.box 26 [.t (.sl 3 (a0.Ins.map c_GApiIns)), .t (.sl 5 (a0.Fns.map c_GApiEntry)), .t (.sl 1 (a0.Strs.map c_str))]))]) mixed [qn0, qn0] ⟨[1], [], [1], [], [], [], []⟩ aN (by kernel_rfl) ?_
  refine W_seq ?_
  refine W_seq ?_
  obtain ⟨r1_1, hr1_1, h⟩ := bind_ok h
  have hr1_1 := xhindcastref15_Great_ok hr1_1
  refine W_y (s' := LS.mk 64 [(1, .ptr 1 0), (8, aB r1_1)] [(1, some (.box 26 [.t (.sl 3 (a0.Ins.map c_GApiIns)), .t (.sl 5 (a0.Fns.map c_GApiEntry)), .t (.sl 1 (a0.Strs.map c_str))]))]) mixed [qn0, qn (.call [] (aB r1_1))] ⟨[1, 8], [], [1], [], [], [], []⟩ (aC hr1_1 aN) (by kernel_rfl) ?_
  refine W_cond r1_1 (by kernel_rfl) (fun hb1 => ?_) (fun hb1 => ?_)
  · have hx2 := hb1
    have h := ib_t h hx2
    refine W_seq ?_
    obtain ⟨r2_0, hr2_0, h⟩ := bind_ok h
    have hr2_0 := xhindcastlaw15_awake_ok hr2_0
    refine W_y (s' := LS.mk 64 [(2, aB r2_0)] []) mixed [qn (.call [] (aB r2_0)), qn0] ⟨[2], [], [], [], [], [], []⟩ (aC hr2_0 aN) (by kernel_rfl) ?_
    refine W_ret ?_
    exact kr [] _ _ (by kernel_rfl) (Option.some.inj h)
  · have hx2 := hb1
    have h := ib_f h hx2
    refine W_skip ?_
    refine W_seq ?_
    obtain ⟨r3_1, hr3_1, h⟩ := bind_ok h
    have hr3_1 := xcode_Encode_ok hr3_1
    refine W_y (s' := LS.mk 64 [(1, .ptr 1 0), (3, .t (.sl 1 (r3_1.1.map c_u8))), (4, aI .i64 r3_1.2)] [(1, some (.box 26 [.t (.sl 3 (a0.Ins.map c_GApiIns)), .t (.sl 5 (a0.Fns.map c_GApiEntry)), .t (.sl 1 (a0.Strs.map c_str))]))]) mixed [qn0, qn (.call [] (.tup [.t (.sl 1 (r3_1.1.map c_u8)), aI .i64 r3_1.2])), qn0, qn0, qn0, qn0, qn0] ⟨[1, 3, 4], [], [1], [], [], [], []⟩ (aC hr3_1 aN) (by kernel_rfl) ?_
    refine W_seq ?_
    refine W_seq ?_
    obtain ⟨r4_1, hr4_1, h⟩ := bind_ok h
    have hr4_1 := xhindcastref15_May_ok hr4_1
    refine W_y (s' := LS.mk 64 [(1, .ptr 1 0), (3, .t (.sl 1 (r3_1.1.map c_u8))), (4, aI .i64 r3_1.2), (17, aB (!r4_1))] [(1, some (.box 26 [.t (.sl 3 (a0.Ins.map c_GApiIns)), .t (.sl 5 (a0.Fns.map c_GApiEntry)), .t (.sl 1 (a0.Strs.map c_str))]))]) mixed [qn0, qn (.call [] (aB r4_1)), qn0] ⟨[1, 3, 4, 17], [], [1], [], [], [], []⟩ (aC hr4_1 aN) (by kernel_rfl) ?_
    refine W_cond (!r4_1) (by kernel_rfl) (fun hb3 => ?_) (fun hb3 => ?_)
    · have hx4 : r4_1 = false := (bnot_t hb3)
      have h := ib_f h hx4
      refine W_seq ?_
      obtain ⟨r5_1, hr5_1, h⟩ := bind_ok h
      have hr5_1 := xcode_May_ok hr5_1
      refine (Bool.eq_false_or_eq_true (!r5_1)).elim (fun hb5 => ?_) (fun hb5 => ?_)
      · have hx6 : r5_1 = false := (bnot_t hb5)
        have h := ib_f h hx6
        refine (Bool.eq_false_or_eq_true (decide ((r3_1.1.length : Int) = 0))).elim (fun hb7 => ?_) (fun hb7 => ?_)
        · have hx8 := hb7
          have h := if_t h hx8
          refine (Bool.eq_false_or_eq_true (decide (r3_1.2 = 1))).elim (fun hb9 => ?_) (fun hb9 => ?_)
          · have hx10 := hb9
            have h := if_t h hx10
            obtain ⟨r5_13, hr5_13, h⟩ := bind_ok h
            have hr5_13 := xhindcastlaw15_awake_ok hr5_13
            refine W_y (s' := LS.mk 64 [(2, aB r5_13)] []) mixed [qn0, qn (.call [] (aB r5_1)), qn0, qn0, qt0, qt (.len r3_1.1.length), qt0, qn (.dec true), qn0, qt0, qt0, qn (.dec true), qn0, qt (.call [] (aB r5_13)), qn (.dec true), qn0] ⟨[2], [], [], [], [], [], []⟩ (aC hr5_1 (aC (not_f hx6) (aC (not_f hx6) (aC (len_obx c_u8 r3_1.1) (aC (not_f hx6) (aC (not_f hx6) (aC hx8 (aC hx8 (aC hx8 (aC hx10 (aC hr5_13 (aC hx10 aN)))))))))))) (by kernel_rfl) ?_
            refine W_ret ?_
            exact kr [] _ _ (by kernel_rfl) (Option.some.inj h)
          · have hx10 := hb9
            have h := if_f h hx10
            refine W_y (s' := LS.mk 64 [(2, aB false)] []) mixed [qn0, qn (.call [] (aB r5_1)), qn0, qn0, qt0, qt (.len r3_1.1.length), qt0, qn (.dec true), qn0, qt0, qt0, qn (.dec true), qn0, qf0, qn (.dec false), qn0] ⟨[2], [], [], [], [], [], []⟩ (aC hr5_1 (aC (not_f hx6) (aC (not_f hx6) (aC (len_obx c_u8 r3_1.1) (aC (not_f hx6) (aC (not_f hx6) (aC hx8 (aC hx8 (aC hx8 (aC hx10 (aC hx10 aN))))))))))) (by kernel_rfl) ?_
            refine W_ret ?_
            exact kr [] _ _ (by kernel_rfl) (Option.some.inj h)
        · have hx8 := hb7
          have h := if_f h hx8
          refine W_y (s' := LS.mk 64 [(2, aB false)] []) mixed [qn0, qn (.call [] (aB r5_1)), qn0, qn0, qt0, qt (.len r3_1.1.length), qt0, qn (.dec true), qn0, qf0, qf0, qn (.dec false), qn0, qn0, qn0, qn0] ⟨[2], [], [], [], [], [], []⟩ (aC hr5_1 (aC (not_f hx6) (aC (not_f hx6) (aC (len_obx c_u8 r3_1.1) (aC (not_f hx6) (aC (not_f hx6) (aC hx8 (aC hx8 (aC hx8 aN))))))))) (by kernel_rfl) ?_
          refine W_ret ?_
          exact kr [] _ _ (by kernel_rfl) (Option.some.inj h)
      · have hx6 : r5_1 = true := (bnot_f hb5)
        have h := ib_t h hx6
        refine W_y (s' := LS.mk 64 [(2, aB false)] []) mixed [qn0, qn (.call [] (aB r5_1)), qn0, qn0, qf0, qf0, qf0, qn (.dec false), qn0, qn0, qn0, qn0, qn0, qn0, qn0, qn0] ⟨[2], [], [], [], [], [], []⟩ (aC hr5_1 (aC (not_t hx6) (aC (not_t hx6) (aC (not_t hx6) (aC (not_t hx6) aN))))) (by kernel_rfl) ?_
        refine W_ret ?_
        exact kr [] _ _ (by kernel_rfl) (Option.some.inj h)
    · have hx4 : r4_1 = true := (bnot_f hb3)
      have h := ib_t h hx4
      refine W_skip ?_
      refine W_seq ?_
      obtain ⟨r6_1, hr6_1, h⟩ := bind_ok h
      have hr6_1 := xcode_Decode_ok hr6_1
      refine W_y (s' := LS.mk 64 [(1, .ptr 1 0), (3, .t (.sl 1 (r3_1.1.map c_u8))), (4, aI .i64 r3_1.2), (5, .ptr 5 0), (6, aI .i64 r6_1.2)] [(1, some (.box 26 [.t (.sl 3 (a0.Ins.map c_GApiIns)), .t (.sl 5 (a0.Fns.map c_GApiEntry)), .t (.sl 1 (a0.Strs.map c_str))])), (5, some (.box 26 [.t (.sl 3 (r6_1.1.Ins.map c_GApiIns)), .t (.sl 5 (r6_1.1.Fns.map c_GApiEntry)), .t (.sl 1 (r6_1.1.Strs.map c_str))]))]) mixed [qn0, qn (.call [] (.tup [e_GApiCode r6_1.1, aI .i64 r6_1.2])), qn0, qn0, qn0, qn0, qn0, qn0] ⟨[1, 3, 4, 5, 6], [], [1, 5], [], [], [], []⟩ (aC hr6_1 aN) (by kernel_rfl) ?_
      refine W_seq ?_
      obtain ⟨r7_1, hr7_1, h⟩ := bind_ok h
      have hr7_1 := xcode_May_ok hr7_1
      refine (Bool.eq_false_or_eq_true r7_1).elim (fun hb11 => ?_) (fun hb11 => ?_)
      · have hx12 := hb11
        have h := ib_t h hx12
        refine (Bool.eq_false_or_eq_true (decide (r3_1.2 = 0))).elim (fun hb13 => ?_) (fun hb13 => ?_)
        · have hx14 := hb13
          have h := if_t h hx14
          obtain ⟨hd15, h⟩ := ite_ok h
          obtain ⟨r7_10, hr7_10, h⟩ := bind_ok h
          have hr7_10 := xhindcastref15_Encode_ok hr7_10
          obtain ⟨hd16, h⟩ := ite_ok h
          refine (Bool.eq_false_or_eq_true (decide ((bytesS r3_1.1) = (bytesS r7_10)))).elim (fun hb17 => ?_) (fun hb17 => ?_)
          · have hx18 := hb17
            have h := if_t h hx18
            refine (Bool.eq_false_or_eq_true (decide (r6_1.2 = 0))).elim (fun hb19 => ?_) (fun hb19 => ?_)
            · have hx20 := hb19
              have h := if_t h hx20
              obtain ⟨r7_21, hr7_21, h⟩ := bind_ok h
              have hr7_21 := xhindcastref15_Same_ok hr7_21
              refine (Bool.eq_false_or_eq_true r7_21).elim (fun hb21 => ?_) (fun hb21 => ?_)
              · have hx22 := hb21
                have h := ib_t h hx22
                obtain ⟨r7_24, hr7_24, h⟩ := bind_ok h
                have hr7_24 := xhindcastlaw15_awake_ok hr7_24
                refine W_y (s' := LS.mk 64 [(2, aB r7_24)] []) mixed [qn0, qn (.call [] (aB r7_1)), qn0, qt0, qt0, qn (.dec true), qn0, qt0, qt (.quiet (aS (bytesS r3_1.1))), qt0, qt (.call [] (.t (.sl 1 (r7_10.map c_u8)))), qt (.quiet (aS (bytesS r7_10))), qt (.val (.bool (decide ((bytesS r3_1.1) = (bytesS r7_10))))), qn (.dec true), qn0, qt0, qt0, qn (.dec true), qn0, qt0, qt0, qt (.call [] (aB r7_21)), qn (.dec true), qn0, qt (.call [] (aB r7_24)), qn (.dec true), qn0] ⟨[2], [], [], [], [], [], []⟩ (aC hr7_1 (aC hx12 (aC hx12 (aC hx12 (aC hx14 (aC hx14 (aC (show Quiet Try.prog (opAt (subC (bodyC Try.prog 3) [1, 1, 1, 1, 1, 0]) 8) [.t (.sl 1 (r3_1.1.map c_u8))] (aS (bytesS r3_1.1)) from bytesS_ob (e := 5) (by rfl) (by kernel_rfl) (by kernel_rfl) (by kernel_rfl) c_u8 rfl hd15) (aC hx14 (aC hx14 (aC hr7_10 (aC hx14 (aC (show Quiet Try.prog (opAt (subC (bodyC Try.prog 3) [1, 1, 1, 1, 1, 0]) 11) [.t (.sl 1 (r7_10.map c_u8))] (aS (bytesS r7_10)) from bytesS_ob (e := 5) (by rfl) (by kernel_rfl) (by kernel_rfl) (by kernel_rfl) c_u8 rfl hd16) (aC hx14 (aC (str_eq_ob (P := Try.prog) 9 (bytesS r3_1.1) (bytesS r7_10)) (aC hx14 (aC hx18 (aC hx18 (aC hx18 (aC hx20 (aC hx20 (aC hx20 (aC hr7_21 (aC hx20 (aC hx22 (aC hr7_24 (aC hx22 aN)))))))))))))))))))))))))) (by kernel_rfl) ?_
                refine W_ret ?_
                exact kr [] _ _ (by kernel_rfl) (Option.some.inj h)
              · have hx22 := hb21
                have h := ib_f h hx22
                refine W_y (s' := LS.mk 64 [(2, aB false)] []) mixed [qn0, qn (.call [] (aB r7_1)), qn0, qt0, qt0, qn (.dec true), qn0, qt0, qt (.quiet (aS (bytesS r3_1.1))), qt0, qt (.call [] (.t (.sl 1 (r7_10.map c_u8)))), qt (.quiet (aS (bytesS r7_10))), qt (.val (.bool (decide ((bytesS r3_1.1) = (bytesS r7_10))))), qn (.dec true), qn0, qt0, qt0, qn (.dec true), qn0, qt0, qt0, qt (.call [] (aB r7_21)), qn (.dec true), qn0, qf0, qn (.dec false), qn0] ⟨[2], [], [], [], [], [], []⟩ (aC hr7_1 (aC hx12 (aC hx12 (aC hx12 (aC hx14 (aC hx14 (aC (show Quiet Try.prog (opAt (subC (bodyC Try.prog 3) [1, 1, 1, 1, 1, 0]) 8) [.t (.sl 1 (r3_1.1.map c_u8))] (aS (bytesS r3_1.1)) from bytesS_ob (e := 5) (by rfl) (by kernel_rfl) (by kernel_rfl) (by kernel_rfl) c_u8 rfl hd15) (aC hx14 (aC hx14 (aC hr7_10 (aC hx14 (aC (show Quiet Try.prog (opAt (subC (bodyC Try.prog 3) [1, 1, 1, 1, 1, 0]) 11) [.t (.sl 1 (r7_10.map c_u8))] (aS (bytesS r7_10)) from bytesS_ob (e := 5) (by rfl) (by kernel_rfl) (by kernel_rfl) (by kernel_rfl) c_u8 rfl hd16) (aC hx14 (aC (str_eq_ob (P := Try.prog) 9 (bytesS r3_1.1) (bytesS r7_10)) (aC hx14 (aC hx18 (aC hx18 (aC hx18 (aC hx20 (aC hx20 (aC hx20 (aC hr7_21 (aC hx20 (aC hx22 (aC hx22 aN))))))))))))))))))))))))) (by kernel_rfl) ?_
                refine W_ret ?_
                exact kr [] _ _ (by kernel_rfl) (Option.some.inj h)
            · have hx20 := hb19
              have h := if_f h hx20
              refine W_y (s' := LS.mk 64 [(2, aB false)] []) mixed [qn0, qn (.call [] (aB r7_1)), qn0, qt0, qt0, qn (.dec true), qn0, qt0, qt (.quiet (aS (bytesS r3_1.1))), qt0, qt (.call [] (.t (.sl 1 (r7_10.map c_u8)))), qt (.quiet (aS (bytesS r7_10))), qt (.val (.bool (decide ((bytesS r3_1.1) = (bytesS r7_10))))), qn (.dec true), qn0, qt0, qt0, qn (.dec true), qn0, qf0, qf0, qf0, qn (.dec false), qn0, qn0, qn0, qn0] ⟨[2], [], [], [], [], [], []⟩ (aC hr7_1 (aC hx12 (aC hx12 (aC hx12 (aC hx14 (aC hx14 (aC (show Quiet Try.prog (opAt (subC (bodyC Try.prog 3) [1, 1, 1, 1, 1, 0]) 8) [.t (.sl 1 (r3_1.1.map c_u8))] (aS (bytesS r3_1.1)) from bytesS_ob (e := 5) (by rfl) (by kernel_rfl) (by kernel_rfl) (by kernel_rfl) c_u8 rfl hd15) (aC hx14 (aC hx14 (aC hr7_10 (aC hx14 (aC (show Quiet Try.prog (opAt (subC (bodyC Try.prog 3) [1, 1, 1, 1, 1, 0]) 11) [.t (.sl 1 (r7_10.map c_u8))] (aS (bytesS r7_10)) from bytesS_ob (e := 5) (by rfl) (by kernel_rfl) (by kernel_rfl) (by kernel_rfl) c_u8 rfl hd16) (aC hx14 (aC (str_eq_ob (P := Try.prog) 9 (bytesS r3_1.1) (bytesS r7_10)) (aC hx14 (aC hx18 (aC hx18 (aC hx18 (aC hx20 (aC hx20 (aC hx20 (aC hx20 aN)))))))))))))))))))))) (by kernel_rfl) ?_
              refine W_ret ?_
              exact kr [] _ _ (by kernel_rfl) (Option.some.inj h)
          · have hx18 := hb17
            have h := if_f h hx18
            refine W_y (s' := LS.mk 64 [(2, aB false)] []) mixed [qn0, qn (.call [] (aB r7_1)), qn0, qt0, qt0, qn (.dec true), qn0, qt0, qt (.quiet (aS (bytesS r3_1.1))), qt0, qt (.call [] (.t (.sl 1 (r7_10.map c_u8)))), qt (.quiet (aS (bytesS r7_10))), qt (.val (.bool (decide ((bytesS r3_1.1) = (bytesS r7_10))))), qn (.dec true), qn0, qf0, qf0, qn (.dec false), qn0, qn0, qn0, qn0, qn0, qn0, qn0, qn0, qn0] ⟨[2], [], [], [], [], [], []⟩ (aC hr7_1 (aC hx12 (aC hx12 (aC hx12 (aC hx14 (aC hx14 (aC (show Quiet Try.prog (opAt (subC (bodyC Try.prog 3) [1, 1, 1, 1, 1, 0]) 8) [.t (.sl 1 (r3_1.1.map c_u8))] (aS (bytesS r3_1.1)) from bytesS_ob (e := 5) (by rfl) (by kernel_rfl) (by kernel_rfl) (by kernel_rfl) c_u8 rfl hd15) (aC hx14 (aC hx14 (aC hr7_10 (aC hx14 (aC (show Quiet Try.prog (opAt (subC (bodyC Try.prog 3) [1, 1, 1, 1, 1, 0]) 11) [.t (.sl 1 (r7_10.map c_u8))] (aS (bytesS r7_10)) from bytesS_ob (e := 5) (by rfl) (by kernel_rfl) (by kernel_rfl) (by kernel_rfl) c_u8 rfl hd16) (aC hx14 (aC (str_eq_ob (P := Try.prog) 9 (bytesS r3_1.1) (bytesS r7_10)) (aC hx14 (aC hx18 (aC hx18 (aC hx18 aN)))))))))))))))))) (by kernel_rfl) ?_
            refine W_ret ?_
            exact kr [] _ _ (by kernel_rfl) (Option.some.inj h)
        · have hx14 := hb13
          have h := if_f h hx14
          refine W_y (s' := LS.mk 64 [(2, aB false)] []) mixed [qn0, qn (.call [] (aB r7_1)), qn0, qt0, qt0, qn (.dec true), qn0, qf0, qf0, qf0, qf0, qf0, qf0, qn (.dec false), qn0, qn0, qn0, qn0, qn0, qn0, qn0, qn0, qn0, qn0, qn0, qn0, qn0] ⟨[2], [], [], [], [], [], []⟩ (aC hr7_1 (aC hx12 (aC hx12 (aC hx12 (aC hx14 (aC hx14 (aC hx14 (aC hx14 (aC hx14 (aC hx14 (aC hx14 aN))))))))))) (by kernel_rfl) ?_
          refine W_ret ?_
          exact kr [] _ _ (by kernel_rfl) (Option.some.inj h)
      · have hx12 := hb11
        have h := ib_f h hx12
        refine W_y (s' := LS.mk 64 [(2, aB false)] []) mixed [qn0, qn (.call [] (aB r7_1)), qn0, qf0, qf0, qn (.dec false), qn0, qn0, qn0, qn0, qn0, qn0, qn0, qn0, qn0, qn0, qn0, qn0, qn0, qn0, qn0, qn0, qn0, qn0, qn0, qn0, qn0] ⟨[2], [], [], [], [], [], []⟩ (aC hr7_1 (aC hx12 (aC hx12 (aC hx12 aN)))) (by kernel_rfl) ?_
        refine W_ret ?_
        exact kr [] _ _ (by kernel_rfl) (Option.some.inj h)
end Go.Proofs.Ytcmpcbpdnaodmaa
