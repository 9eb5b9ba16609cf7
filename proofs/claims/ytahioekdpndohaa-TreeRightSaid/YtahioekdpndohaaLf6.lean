/- Functions of the program, lifted. -/
import Derived.Test.YtahioekdpndohaaLf5
namespace Go.Proofs.Ytahioekdpndohaa
open Go.RowKit
set_option linter.unusedVariables false
set_option maxHeartbeats 4000000
def R_hindcastref05_May (a0 : (List GApiNode)) (r : Bool) : Prop := FnP Try.prog 13 [.t (.sl 6 (a0.map c_GApiNode))] (aB r)
inductive hindcastref05_May_C where
  | l0 (a0 : (List GApiNode)) (v0_16_0 : Int)
  | j1 
abbrev hindcastref05_May_C_T : hindcastref05_May_C → Type := fun _ => Bool
noncomputable def hindcastref05_May_l0_b (g : (i : hindcastref05_May_C) → Option (hindcastref05_May_C_T i)) (a0 : (List GApiNode)) (v0_16_0 : Int) : Option Bool :=
  (if v0_16_0 < (a0.length : Int) then ((getI a0 v0_16_0).bind fun (x6_2 : GApiNode) => ((hindcastref05_field x6_2).bind fun (r6_4 : Bool) => (if r6_4 = true then ((hindcastref05_family a0 v0_16_0).bind fun (r6_9 : Bool) => (if r6_9 = true then g (.l0 a0 (w64 (v0_16_0 + 1))) else (some false))) else (some false)))) else g (.j1))
noncomputable def hindcastref05_May_j1_b (g : (i : hindcastref05_May_C) → Option (hindcastref05_May_C_T i))  : Option Bool :=
  (some true)
noncomputable def hindcastref05_May_B (g : (i : hindcastref05_May_C) → Option (hindcastref05_May_C_T i)) : (i : hindcastref05_May_C) → Option (hindcastref05_May_C_T i)
  | .l0 a0 v0_16_0 => hindcastref05_May_l0_b g a0 v0_16_0
  | .j1  => hindcastref05_May_j1_b g 
theorem hindcastref05_May_B_fin (i : hindcastref05_May_C) : Fin1 (fun g => hindcastref05_May_B g i) := by
  cases i with
  | l0 a0 v0_16_0 => show Fin1 (fun g => hindcastref05_May_l0_b g a0 v0_16_0); unfold hindcastref05_May_l0_b; repeat (first | refine fin_bind ?_ (fun _ => ?_) | refine fin_ite ?_ ?_ | exact fin_ask _ | exact fin_const _)
  | j1  => show Fin1 (fun g => hindcastref05_May_j1_b g ); unfold hindcastref05_May_j1_b; repeat (first | refine fin_bind ?_ (fun _ => ?_) | refine fin_ite ?_ ?_ | exact fin_ask _ | exact fin_const _)
noncomputable def hindcastref05_May_l0 (a0 : (List GApiNode)) (v0_16_0 : Int) : Option Bool := fixD hindcastref05_May_B (.l0 a0 v0_16_0)
noncomputable def hindcastref05_May_j1  : Option Bool := fixD hindcastref05_May_B (.j1 )
theorem hindcastref05_May_l0_eq (a0 : (List GApiNode)) (v0_16_0 : Int) : hindcastref05_May_l0 a0 v0_16_0 =
  (if v0_16_0 < (a0.length : Int) then ((getI a0 v0_16_0).bind fun (x6_2 : GApiNode) => ((hindcastref05_field x6_2).bind fun (r6_4 : Bool) => (if r6_4 = true then ((hindcastref05_family a0 v0_16_0).bind fun (r6_9 : Bool) => (if r6_9 = true then hindcastref05_May_l0 a0 (w64 (v0_16_0 + 1)) else (some false))) else (some false)))) else hindcastref05_May_j1) := fix_eq hindcastref05_May_B_fin _
theorem hindcastref05_May_j1_eq  : hindcastref05_May_j1  =
  (some true) := fix_eq hindcastref05_May_B_fin _
set_option maxRecDepth 100000 in
theorem hindcastref05_May_l0_ok (n : Nat)  (a0 : (List GApiNode)) (v0_16_0 : Int) (r_ : Bool) (Q' : Exit → St → Prop) (kr : ∀ (ns : List (Nat × Nat × Nat)) (s : LS) (x : Bool), retX Try.prog ns [.tmp 2] s = some (aB x) → x = r_ → Q' .ret s.st) (k_x_0 : ∀ (q : Nat), q < n → ∀  (s' : LS), recN hindcastref05_May_B q (.j1 ) = some r_ → Fits s'.st (LS.mk 32 [] []).st → Q' (.exit 0) s'.st) (h : recN hindcastref05_May_B n (.l0 a0 v0_16_0) = some r_) : W Try.prog (subC (bodyC Try.prog 13) [1, 1, 0, 1, 0]) (LS.mk 32 [(0, .t (.sl 6 (a0.map c_GApiNode))), (15, aI .i64 (a0.length : Int)), (16, aI .i64 v0_16_0)] []).st Q' := by
  refine W_fix (σ := Int) (fun m x_ => m ≤ n ∧ recN hindcastref05_May_B m (.l0 a0 x_) = some r_) (fun x_ => LS.mk 32 [(0, .t (.sl 6 (a0.map c_GApiNode))), (15, aI .i64 (a0.length : Int)), (16, aI .i64 x_)] []) (fun x hx => by cases hx.2) (fun _ _ => rfl) ?_ n (v0_16_0) ⟨Nat.le_refl _, h⟩
  clear h
  rintro m v0_16_0 ⟨hlt, h⟩
  replace h : hindcastref05_May_l0_b (recN hindcastref05_May_B m) a0 v0_16_0 = some r_ := h
  unfold hindcastref05_May_l0_b at h
  refine W_seq ?_
  refine W_y (s' := LS.mk 32 [(0, .t (.sl 6 (a0.map c_GApiNode))), (15, aI .i64 (a0.length : Int)), (16, aI .i64 v0_16_0), (17, aB (decide (v0_16_0 < (a0.length : Int))))] []) mixed [qn0] ⟨[0, 15, 16, 17], [], [], [], [], [], []⟩ aN (by kernel_rfl) ?_
  refine W_seq ?_
  refine W_cond (decide (v0_16_0 < (a0.length : Int))) (by kernel_rfl) (fun hb1001 => ?_) (fun hb1001 => ?_)
  · have hx1002 := hb1001
    have h := if_t h hx1002
    refine W_skip ?_
    refine W_seq ?_
    refine W_block ?_
    refine W_seq ?_
    refine W_y (s' := LS.mk 32 [(0, .t (.sl 6 (a0.map c_GApiNode))), (3, aI .i64 v0_16_0), (15, aI .i64 (a0.length : Int)), (16, aI .i64 v0_16_0)] []) mixed [qn0, qn0] ⟨[0, 3, 15, 16], [], [], [], [], [], []⟩ aN (by kernel_rfl) ?_
    refine W_seq ?_
    obtain ⟨x6_2, hx6_2, h⟩ := bind_ok h
    obtain ⟨r6_4, hr6_4, h⟩ := bind_ok h
    have hr6_4 := hindcastref05_field_ok hr6_4
    refine (Bool.eq_false_or_eq_true (!r6_4)).elim (fun hb1003 => ?_) (fun hb1003 => ?_)
    · have hx1004 : r6_4 = false := (bnot_t hb1003)
      have h := ib_f h hx1004
      refine W_y (s' := LS.mk 32 [(0, .t (.sl 6 (a0.map c_GApiNode))), (15, aI .i64 (a0.length : Int)), (16, aI .i64 v0_16_0), (30, aB true)] []) mixed [qn0, qn0, qn (.ix (Int.toNat v0_16_0) (c_GApiNode x6_2)), qn0, qn (.call [] (aB r6_4)), qn0, qn0, qt0, qt0, qt0, qt0, qn (.dec true)] ⟨[0, 15, 16, 30], [], [], [], [], [], []⟩ (aC (ix_obx c_GApiNode hx6_2) (aC hr6_4 (aC (not_f hx1004) (aC (not_f hx1004) (aC (not_f hx1004) (aC (not_f hx1004) (aC (not_f hx1004) aN))))))) (by kernel_rfl) ?_
      refine W_cond true (by kernel_rfl) (fun _ => ?_) (fun hb => nomatch ((rfl : true = true).symm.trans hb))
      refine W_seq ?_
      refine W_y (s' := LS.mk 32 [(2, aB false)] []) mixed [qn0] ⟨[2], [], [], [], [], [], []⟩ aN (by kernel_rfl) ?_
      refine W_ret ?_
      exact kr [] _ _ (by kernel_rfl) (Option.some.inj h)
    · have hx1004 : r6_4 = true := (bnot_f hb1003)
      have h := ib_t h hx1004
      obtain ⟨r6_9, hr6_9, h⟩ := bind_ok h
      have hr6_9 := hindcastref05_family_ok hr6_9
      refine W_y (s' := LS.mk 32 [(0, .t (.sl 6 (a0.map c_GApiNode))), (15, aI .i64 (a0.length : Int)), (16, aI .i64 v0_16_0), (30, aB (!r6_9))] []) mixed [qn0, qn0, qn (.ix (Int.toNat v0_16_0) (c_GApiNode x6_2)), qn0, qn (.call [] (aB r6_4)), qn0, qn0, qf0, qf0, qf (.call [] (aB r6_9)), qf0, qn (.dec false)] ⟨[0, 15, 16, 30], [], [], [], [], [], []⟩ (aC (ix_obx c_GApiNode hx6_2) (aC hr6_4 (aC (not_t hx1004) (aC (not_t hx1004) (aC (not_t hx1004) (aC hr6_9 (aC (not_t hx1004) (aC (not_t hx1004) aN)))))))) (by kernel_rfl) ?_
      refine W_cond (!r6_9) (by kernel_rfl) (fun hb1005 => ?_) (fun hb1005 => ?_)
      · have hx1006 : r6_9 = false := (bnot_t hb1005)
        have h := ib_f h hx1006
        refine W_seq ?_
        refine W_y (s' := LS.mk 32 [(2, aB false)] []) mixed [qn0] ⟨[2], [], [], [], [], [], []⟩ aN (by kernel_rfl) ?_
        refine W_ret ?_
        exact kr [] _ _ (by kernel_rfl) (Option.some.inj h)
      · have hx1006 : r6_9 = true := (bnot_f hb1005)
        have h := ib_t h hx1006
        refine W_skip ?_
        refine W_y (s' := LS.mk 32 [(0, .t (.sl 6 (a0.map c_GApiNode))), (15, aI .i64 (a0.length : Int)), (16, aI .i64 (w64 (v0_16_0 + 1)))] []) mixed [qn0, qn0] ⟨[0, 15, 16], [], [], [], [], [], []⟩ aN (by kernel_rfl) ?_
        exact ⟨m, ((w64 (v0_16_0 + 1))), Nat.le_refl _, ⟨Nat.le_of_lt hlt, h⟩, convX_fits (v := ⟨[0, 15, 16], [], [], [], [], [], []⟩) (s' := LS.mk 32 [(0, .t (.sl 6 (a0.map c_GApiNode))), (15, aI .i64 (a0.length : Int)), (16, aI .i64 (w64 (v0_16_0 + 1)))] []) (by kernel_rfl)⟩
  · have hx1002 := hb1001
    have h := if_f h hx1002
    refine W_exit ?_
    exact k_x_0 m hlt  _ h (convX_fits (v := ⟨[], [], [], [], [], [], []⟩) (s' := LS.mk 32 [] []) (by kernel_rfl))
set_option maxRecDepth 100000 in
theorem hindcastref05_May_j1_ok (n : Nat)   (r_ : Bool) (Q' : Exit → St → Prop) (kr : ∀ (ns : List (Nat × Nat × Nat)) (s : LS) (x : Bool), retX Try.prog ns [.tmp 2] s = some (aB x) → x = r_ → Q' .ret s.st)  (h : recN hindcastref05_May_B n (.j1 ) = some r_) : W Try.prog (subC (bodyC Try.prog 13) [1, 1, 1]) (LS.mk 32 [] []).st Q' := by
  cases n with
  | zero => cases h
  | succ m =>
  have hlt : m < m + 1 := Nat.lt_succ_self m
  replace h : hindcastref05_May_j1_b (recN hindcastref05_May_B m)  = some r_ := h
  unfold hindcastref05_May_j1_b at h
  refine W_seq ?_
  refine W_y (s' := LS.mk 32 [(2, aB true)] []) mixed [qn0] ⟨[2], [], [], [], [], [], []⟩ aN (by kernel_rfl) ?_
  refine W_ret ?_
  exact kr [] _ _ (by kernel_rfl) (Option.some.inj h)
noncomputable def hindcastref05_May (a0 : (List GApiNode)) : Option Bool :=
  ((hindcastref05_Right a0).bind fun (r1_1 : Bool) => (if r1_1 = true then ((getI a0 0).bind fun (x1_5 : GApiNode) => (if x1_5.Kind = 1 then hindcastref05_May_l0 a0 0 else (some false))) else (some false)))
set_option maxRecDepth 100000 in
theorem hindcastref05_May_ok {a0 : (List GApiNode)} {r_ : Bool} (h : hindcastref05_May a0 = some r_) : R_hindcastref05_May a0 r_ := by
  unfold hindcastref05_May at h
  refine fn_pureX (fn := Try.f13) (by kernel_rfl) (c := subC (bodyC Try.prog 13) []) (by kernel_rfl) (by kernel_rfl) (Nat.le_of_ble_eq_true (by kernel_rfl)) ?_
  generalize hQ' : retQ Try.prog Try.f13 (aB r_) = Q'
  have kr : ∀ (ns : List (Nat × Nat × Nat)) (s : LS) (x : Bool), retX Try.prog ns [.tmp 2] s = some (aB x) → x = r_ → Q' .ret s.st := by subst hQ'; intro ns s x hx hq; subst hq; exact ret_ok (fn := Try.f13) ns hx
  change W Try.prog _ (LS.mk 32 [(0, .t (.sl 6 (a0.map c_GApiNode)))] []).st Q'
  refine W_seq ?_
  refine W_y (s' := LS.mk 32 [(0, .t (.sl 6 (a0.map c_GApiNode)))] []) mixed [qn0] ⟨[0], [], [], [], [], [], []⟩ aN (by kernel_rfl) ?_
  refine W_seq ?_
  refine W_seq ?_
  obtain ⟨r1_1, hr1_1, h⟩ := bind_ok h
  have hr1_1 := hindcastref05_Right_ok hr1_1
  refine (Bool.eq_false_or_eq_true (!r1_1)).elim (fun hb1 => ?_) (fun hb1 => ?_)
  · have hx2 : r1_1 = false := (bnot_t hb1)
    have h := ib_f h hx2
    refine W_y (s' := LS.mk 32 [(0, .t (.sl 6 (a0.map c_GApiNode))), (13, aB true)] []) mixed [qn0, qn (.call [] (aB r1_1)), qn0, qn0, qt0, qt0, qt0, qt0, qt0, qn (.dec true)] ⟨[0, 13], [], [], [], [], [], []⟩ (aC hr1_1 (aC (not_f hx2) (aC (not_f hx2) (aC (not_f hx2) (aC (not_f hx2) (aC (not_f hx2) (aC (not_f hx2) aN))))))) (by kernel_rfl) ?_
    refine W_cond true (by kernel_rfl) (fun _ => ?_) (fun hb => nomatch ((rfl : true = true).symm.trans hb))
    refine W_seq ?_
    refine W_y (s' := LS.mk 32 [(2, aB false)] []) mixed [qn0] ⟨[2], [], [], [], [], [], []⟩ aN (by kernel_rfl) ?_
    refine W_ret ?_
    exact kr [] _ _ (by kernel_rfl) (Option.some.inj h)
  · have hx2 : r1_1 = true := (bnot_f hb1)
    have h := ib_t h hx2
    obtain ⟨x1_5, hx1_5, h⟩ := bind_ok h
    refine W_y (s' := LS.mk 32 [(0, .t (.sl 6 (a0.map c_GApiNode))), (13, aB (!(decide (x1_5.Kind = 1))))] []) mixed [qn0, qn (.call [] (aB r1_1)), qn0, qn0, qf0, qf (.ix (Int.toNat 0) (c_GApiNode x1_5)), qf0, qf0, qf0, qn (.dec false)] ⟨[0, 13], [], [], [], [], [], []⟩ (aC hr1_1 (aC (not_t hx2) (aC (not_t hx2) (aC (ix_obx c_GApiNode hx1_5) (aC (not_t hx2) (aC (not_t hx2) (aC (not_t hx2) (aC (not_t hx2) aN)))))))) (by kernel_rfl) ?_
    refine W_cond (!(decide (x1_5.Kind = 1))) (by kernel_rfl) (fun hb3 => ?_) (fun hb3 => ?_)
    · have hx4 : (decide (x1_5.Kind = 1)) = false := (bnot_t hb3)
      have h := if_f h hx4
      refine W_seq ?_
      refine W_y (s' := LS.mk 32 [(2, aB false)] []) mixed [qn0] ⟨[2], [], [], [], [], [], []⟩ aN (by kernel_rfl) ?_
      refine W_ret ?_
      exact kr [] _ _ (by kernel_rfl) (Option.some.inj h)
    · have hx4 : (decide (x1_5.Kind = 1)) = true := (bnot_f hb3)
      have h := if_t h hx4
      refine W_skip ?_
      refine W_seq ?_
      refine W_seq ?_
      refine W_y (s' := LS.mk 32 [(0, .t (.sl 6 (a0.map c_GApiNode))), (15, aI .i64 (a0.length : Int)), (16, aI .i64 0)] []) mixed [qn0, qn (.len a0.length), qn0] ⟨[0, 15, 16], [], [], [], [], [], []⟩ (aC (len_obx c_GApiNode a0) aN) (by kernel_rfl) ?_
      refine W_block ?_
      obtain ⟨n, h⟩ := fix_rec h
      exact W_conv (s' := LS.mk 32 [(0, .t (.sl 6 (a0.map c_GApiNode))), (15, aI .i64 (a0.length : Int)), (16, aI .i64 0)] []) ⟨[0, 15, 16], [], [], [], [], [], []⟩ (by kernel_rfl) (hindcastref05_May_l0_ok n a0 0 r_ _ kr (fun q1 hq1  s' h hf => W_pre hf (hindcastref05_May_j1_ok q1 r_ _ kr h)) h)
def R_hindcastlaw05_TreeRight (a0 : (List GApiNode)) (r : Bool) : Prop := FnP Try.prog 3 [.t (.sl 6 (a0.map c_GApiNode))] (aB r)
noncomputable def hindcastlaw05_TreeRight (a0 : (List GApiNode)) : Option Bool :=
  ((hindcastref05_Many a0).bind fun (r1_1 : Bool) => (if r1_1 = true then ((hindcastlaw05_awake).bind fun (r2_0 : Bool) => (some r2_0)) else ((tree_Right a0).bind fun (r3_1 : Bool) => ((hindcastref05_Right a0).bind fun (r3_3 : Bool) => (if (r3_1 == r3_3) = true then ((tree_May a0).bind fun (r3_7 : Bool) => ((hindcastref05_May a0).bind fun (r3_9 : Bool) => (if (r3_7 == r3_9) = true then ((hindcastlaw05_awake).bind fun (r3_13 : Bool) => (some r3_13)) else (some false)))) else (some false))))))
set_option maxRecDepth 100000 in
theorem hindcastlaw05_TreeRight_ok {a0 : (List GApiNode)} {r_ : Bool} (h : hindcastlaw05_TreeRight a0 = some r_) : R_hindcastlaw05_TreeRight a0 r_ := by
  unfold hindcastlaw05_TreeRight at h
  refine fn_pureX (fn := Try.f3) (by kernel_rfl) (c := subC (bodyC Try.prog 3) []) (by kernel_rfl) (by kernel_rfl) (Nat.le_of_ble_eq_true (by kernel_rfl)) ?_
  generalize hQ' : retQ Try.prog Try.f3 (aB r_) = Q'
  have kr : ∀ (ns : List (Nat × Nat × Nat)) (s : LS) (x : Bool), retX Try.prog ns [.tmp 2] s = some (aB x) → x = r_ → Q' .ret s.st := by subst hQ'; intro ns s x hx hq; subst hq; exact ret_ok (fn := Try.f3) ns hx
  change W Try.prog _ (LS.mk 21 [(0, .t (.sl 6 (a0.map c_GApiNode)))] []).st Q'
  refine W_seq ?_
  refine W_y (s' := LS.mk 21 [(0, .t (.sl 6 (a0.map c_GApiNode)))] []) mixed [qn0] ⟨[0], [], [], [], [], [], []⟩ aN (by kernel_rfl) ?_
  refine W_seq ?_
  refine W_seq ?_
  obtain ⟨r1_1, hr1_1, h⟩ := bind_ok h
  have hr1_1 := hindcastref05_Many_ok hr1_1
  refine W_y (s' := LS.mk 21 [(0, .t (.sl 6 (a0.map c_GApiNode))), (4, aB r1_1)] []) mixed [qn0, qn (.call [] (aB r1_1))] ⟨[0, 4], [], [], [], [], [], []⟩ (aC hr1_1 aN) (by kernel_rfl) ?_
  refine W_cond r1_1 (by kernel_rfl) (fun hb1 => ?_) (fun hb1 => ?_)
  · have hx2 := hb1
    have h := ib_t h hx2
    refine W_seq ?_
    obtain ⟨r2_0, hr2_0, h⟩ := bind_ok h
    have hr2_0 := hindcastlaw05_awake_ok hr2_0
    refine W_y (s' := LS.mk 21 [(2, aB r2_0)] []) mixed [qn (.call [] (aB r2_0)), qn0] ⟨[2], [], [], [], [], [], []⟩ (aC hr2_0 aN) (by kernel_rfl) ?_
    refine W_ret ?_
    exact kr [] _ _ (by kernel_rfl) (Option.some.inj h)
  · have hx2 := hb1
    have h := ib_f h hx2
    refine W_skip ?_
    refine W_seq ?_
    obtain ⟨r3_1, hr3_1, h⟩ := bind_ok h
    have hr3_1 := tree_Right_ok hr3_1
    obtain ⟨r3_3, hr3_3, h⟩ := bind_ok h
    have hr3_3 := hindcastref05_Right_ok hr3_3
    refine (Bool.eq_false_or_eq_true (r3_1 == r3_3)).elim (fun hb3 => ?_) (fun hb3 => ?_)
    · have hx4 := hb3
      have h := ib_t h hx4
      obtain ⟨r3_7, hr3_7, h⟩ := bind_ok h
      have hr3_7 := tree_May_ok hr3_7
      obtain ⟨r3_9, hr3_9, h⟩ := bind_ok h
      have hr3_9 := hindcastref05_May_ok hr3_9
      refine (Bool.eq_false_or_eq_true (r3_7 == r3_9)).elim (fun hb5 => ?_) (fun hb5 => ?_)
      · have hx6 := hb5
        have h := ib_t h hx6
        obtain ⟨r3_13, hr3_13, h⟩ := bind_ok h
        have hr3_13 := hindcastlaw05_awake_ok hr3_13
        refine W_y (s' := LS.mk 21 [(2, aB r3_13)] []) mixed [qn0, qn (.call [] (aB r3_1)), qn0, qn (.call [] (aB r3_3)), qn0, qn0, qt0, qt (.call [] (aB r3_7)), qt0, qt (.call [] (aB r3_9)), qt0, qn (.dec true), qn0, qt (.call [] (aB r3_13)), qn (.dec true), qn0] ⟨[2], [], [], [], [], [], []⟩ (aC hr3_1 (aC hr3_3 (aC hx4 (aC hx4 (aC hr3_7 (aC hx4 (aC hx4 (aC hr3_9 (aC hx4 (aC hx4 (aC hx6 (aC hr3_13 (aC hx6 aN))))))))))))) (by kernel_rfl) ?_
        refine W_ret ?_
        exact kr [] _ _ (by kernel_rfl) (Option.some.inj h)
      · have hx6 := hb5
        have h := ib_f h hx6
        refine W_y (s' := LS.mk 21 [(2, aB false)] []) mixed [qn0, qn (.call [] (aB r3_1)), qn0, qn (.call [] (aB r3_3)), qn0, qn0, qt0, qt (.call [] (aB r3_7)), qt0, qt (.call [] (aB r3_9)), qt0, qn (.dec true), qn0, qf0, qn (.dec false), qn0] ⟨[2], [], [], [], [], [], []⟩ (aC hr3_1 (aC hr3_3 (aC hx4 (aC hx4 (aC hr3_7 (aC hx4 (aC hx4 (aC hr3_9 (aC hx4 (aC hx4 (aC hx6 (aC hx6 aN)))))))))))) (by kernel_rfl) ?_
        refine W_ret ?_
        exact kr [] _ _ (by kernel_rfl) (Option.some.inj h)
    · have hx4 := hb3
      have h := ib_f h hx4
      refine W_y (s' := LS.mk 21 [(2, aB false)] []) mixed [qn0, qn (.call [] (aB r3_1)), qn0, qn (.call [] (aB r3_3)), qn0, qn0, qf0, qf0, qf0, qf0, qf0, qn (.dec false), qn0, qn0, qn0, qn0] ⟨[2], [], [], [], [], [], []⟩ (aC hr3_1 (aC hr3_3 (aC hx4 (aC hx4 (aC hx4 (aC hx4 (aC hx4 (aC hx4 aN)))))))) (by kernel_rfl) ?_
      refine W_ret ?_
      exact kr [] _ _ (by kernel_rfl) (Option.some.inj h)
end Go.Proofs.Ytahioekdpndohaa
