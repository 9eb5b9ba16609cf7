/- Functions of the program, lifted. -/
import Derived.Test.YtahioekdpndohaaLf4
namespace Go.Proofs.Ytahioekdpndohaa
open Go.RowKit
set_option linter.unusedVariables false
set_option maxHeartbeats 4000000
def R_hindcastref05_Many (a0 : (List GApiNode)) (r : Bool) : Prop := FnP Try.prog 8 [.t (.sl 6 (a0.map c_GApiNode))] (aB r)
inductive hindcastref05_Many_C where
  | l0 (a0 : (List GApiNode)) (v0_3_0 : Int) (v0_7_0 : Int)
  | j1 
abbrev hindcastref05_Many_C_T : hindcastref05_Many_C → Type := fun _ => Bool
noncomputable def hindcastref05_Many_l0_b (g : (i : hindcastref05_Many_C) → Option (hindcastref05_Many_C_T i)) (a0 : (List GApiNode)) (v0_3_0 : Int) (v0_7_0 : Int) : Option Bool :=
  (if v0_7_0 < (a0.length : Int) then ((getI a0 v0_7_0).bind fun (x5_3 : GApiNode) => (if (w64 (v0_3_0 + (w64 (1 + (if (5000 : Int) < (x5_3.Text.length : Int) then 5000 else (x5_3.Text.length : Int)))))) > 4000 then (some true) else g (.l0 a0 (w64 (v0_3_0 + (w64 (1 + (if (5000 : Int) < (x5_3.Text.length : Int) then 5000 else (x5_3.Text.length : Int)))))) (w64 (v0_7_0 + 1))))) else g (.j1))
noncomputable def hindcastref05_Many_j1_b (g : (i : hindcastref05_Many_C) → Option (hindcastref05_Many_C_T i))  : Option Bool :=
  (some false)
noncomputable def hindcastref05_Many_B (g : (i : hindcastref05_Many_C) → Option (hindcastref05_Many_C_T i)) : (i : hindcastref05_Many_C) → Option (hindcastref05_Many_C_T i)
  | .l0 a0 v0_3_0 v0_7_0 => hindcastref05_Many_l0_b g a0 v0_3_0 v0_7_0
  | .j1  => hindcastref05_Many_j1_b g 
theorem hindcastref05_Many_B_fin (i : hindcastref05_Many_C) : Fin1 (fun g => hindcastref05_Many_B g i) := by
  cases i with
  | l0 a0 v0_3_0 v0_7_0 => show Fin1 (fun g => hindcastref05_Many_l0_b g a0 v0_3_0 v0_7_0); unfold hindcastref05_Many_l0_b; repeat (first | refine fin_bind ?_ (fun _ => ?_) | refine fin_ite ?_ ?_ | exact fin_ask _ | exact fin_const _)
  | j1  => show Fin1 (fun g => hindcastref05_Many_j1_b g ); unfold hindcastref05_Many_j1_b; repeat (first | refine fin_bind ?_ (fun _ => ?_) | refine fin_ite ?_ ?_ | exact fin_ask _ | exact fin_const _)
noncomputable def hindcastref05_Many_l0 (a0 : (List GApiNode)) (v0_3_0 : Int) (v0_7_0 : Int) : Option Bool := fixD hindcastref05_Many_B (.l0 a0 v0_3_0 v0_7_0)
noncomputable def hindcastref05_Many_j1  : Option Bool := fixD hindcastref05_Many_B (.j1 )
theorem hindcastref05_Many_l0_eq (a0 : (List GApiNode)) (v0_3_0 : Int) (v0_7_0 : Int) : hindcastref05_Many_l0 a0 v0_3_0 v0_7_0 =
  (if v0_7_0 < (a0.length : Int) then ((getI a0 v0_7_0).bind fun (x5_3 : GApiNode) => (if (w64 (v0_3_0 + (w64 (1 + (if (5000 : Int) < (x5_3.Text.length : Int) then 5000 else (x5_3.Text.length : Int)))))) > 4000 then (some true) else hindcastref05_Many_l0 a0 (w64 (v0_3_0 + (w64 (1 + (if (5000 : Int) < (x5_3.Text.length : Int) then 5000 else (x5_3.Text.length : Int)))))) (w64 (v0_7_0 + 1)))) else hindcastref05_Many_j1) := fix_eq hindcastref05_Many_B_fin _
theorem hindcastref05_Many_j1_eq  : hindcastref05_Many_j1  =
  (some false) := fix_eq hindcastref05_Many_B_fin _
set_option maxRecDepth 100000 in
theorem hindcastref05_Many_l0_ok (n : Nat)  (a0 : (List GApiNode)) (v0_3_0 : Int) (v0_7_0 : Int) (r_ : Bool) (Q' : Exit → St → Prop) (kr : ∀ (ns : List (Nat × Nat × Nat)) (s : LS) (x : Bool), retX Try.prog ns [.tmp 2] s = some (aB x) → x = r_ → Q' .ret s.st) (k_x_0 : ∀ (q : Nat), q < n → ∀  (s' : LS), recN hindcastref05_Many_B q (.j1 ) = some r_ → Fits s'.st (LS.mk 23 [] []).st → Q' (.exit 0) s'.st) (h : recN hindcastref05_Many_B n (.l0 a0 v0_3_0 v0_7_0) = some r_) : W Try.prog (subC (bodyC Try.prog 8) [1, 1, 0, 1, 0]) (LS.mk 23 [(0, .t (.sl 6 (a0.map c_GApiNode))), (3, aI .i64 v0_3_0), (6, aI .i64 (a0.length : Int)), (7, aI .i64 v0_7_0)] []).st Q' := by
  refine W_fix (σ := Int × Int) (fun m x_ => m ≤ n ∧ recN hindcastref05_Many_B m (.l0 a0 x_.1 x_.2) = some r_) (fun x_ => LS.mk 23 [(0, .t (.sl 6 (a0.map c_GApiNode))), (3, aI .i64 x_.1), (6, aI .i64 (a0.length : Int)), (7, aI .i64 x_.2)] []) (fun x hx => by cases hx.2) (fun _ _ => rfl) ?_ n (v0_3_0, v0_7_0) ⟨Nat.le_refl _, h⟩
  clear h
  rintro m ⟨v0_3_0, v0_7_0⟩ ⟨hlt, h⟩
  replace h : hindcastref05_Many_l0_b (recN hindcastref05_Many_B m) a0 v0_3_0 v0_7_0 = some r_ := h
  unfold hindcastref05_Many_l0_b at h
  refine W_seq ?_
  refine W_y (s' := LS.mk 23 [(0, .t (.sl 6 (a0.map c_GApiNode))), (3, aI .i64 v0_3_0), (6, aI .i64 (a0.length : Int)), (7, aI .i64 v0_7_0), (8, aB (decide (v0_7_0 < (a0.length : Int))))] []) mixed [qn0] ⟨[0, 3, 6, 7, 8], [], [], [], [], [], []⟩ aN (by kernel_rfl) ?_
  refine W_seq ?_
  refine W_cond (decide (v0_7_0 < (a0.length : Int))) (by kernel_rfl) (fun hb1001 => ?_) (fun hb1001 => ?_)
  · have hx1002 := hb1001
    have h := if_t h hx1002
    refine W_skip ?_
    refine W_seq ?_
    refine W_block ?_
    refine W_seq ?_
    refine W_y (s' := LS.mk 23 [(0, .t (.sl 6 (a0.map c_GApiNode))), (3, aI .i64 v0_3_0), (4, aI .i64 v0_7_0), (6, aI .i64 (a0.length : Int)), (7, aI .i64 v0_7_0)] []) mixed [qn0, qn0] ⟨[0, 3, 4, 6, 7], [], [], [], [], [], []⟩ aN (by kernel_rfl) ?_
    refine W_seq ?_
    obtain ⟨x5_3, hx5_3, h⟩ := bind_ok h
    refine W_y (s' := LS.mk 23 [(0, .t (.sl 6 (a0.map c_GApiNode))), (3, aI .i64 (w64 (v0_3_0 + (w64 (1 + (if (5000 : Int) < (x5_3.Text.length : Int) then 5000 else (x5_3.Text.length : Int))))))), (6, aI .i64 (a0.length : Int)), (7, aI .i64 v0_7_0)] []) mixed [qn0, qn0, qn0, qn (.ix (Int.toNat v0_7_0) (c_GApiNode x5_3)), qn0, qn0, qn0, qn (.quiet (aI .i64 (if (5000 : Int) < (x5_3.Text.length : Int) then 5000 else (x5_3.Text.length : Int)))), qn0, qn0, qn0] ⟨[0, 3, 6, 7], [], [], [], [], [], []⟩ (aC (ix_obx c_GApiNode hx5_3) (aC (show Quiet Try.prog (opAt (subC (bodyC Try.prog 8) [1, 1, 0, 1, 0, 0, 1, 1, 0, 0, 1, 0]) 7) [aI .i64 (x5_3.Text.length : Int), aI .i64 5000] (aI .i64 (if (5000 : Int) < (x5_3.Text.length : Int) then 5000 else (x5_3.Text.length : Int))) from min_ob (by rfl) (by rfl) (by rfl)) aN)) (by kernel_rfl) ?_
    refine W_seq ?_
    refine W_y (s' := LS.mk 23 [(0, .t (.sl 6 (a0.map c_GApiNode))), (3, aI .i64 (w64 (v0_3_0 + (w64 (1 + (if (5000 : Int) < (x5_3.Text.length : Int) then 5000 else (x5_3.Text.length : Int))))))), (6, aI .i64 (a0.length : Int)), (7, aI .i64 v0_7_0), (21, aB (decide ((w64 (v0_3_0 + (w64 (1 + (if (5000 : Int) < (x5_3.Text.length : Int) then 5000 else (x5_3.Text.length : Int)))))) > 4000)))] []) mixed [qn0, qn0] ⟨[0, 3, 6, 7, 21], [], [], [], [], [], []⟩ aN (by kernel_rfl) ?_
    refine W_cond (decide ((w64 (v0_3_0 + (w64 (1 + (if (5000 : Int) < (x5_3.Text.length : Int) then 5000 else (x5_3.Text.length : Int)))))) > 4000)) (by kernel_rfl) (fun hb1003 => ?_) (fun hb1003 => ?_)
    · have hx1004 := hb1003
      have h := if_t h hx1004
      refine W_seq ?_
      refine W_y (s' := LS.mk 23 [(2, aB true)] []) mixed [qn0] ⟨[2], [], [], [], [], [], []⟩ aN (by kernel_rfl) ?_
      refine W_ret ?_
      exact kr [] _ _ (by kernel_rfl) (Option.some.inj h)
    · have hx1004 := hb1003
      have h := if_f h hx1004
      refine W_skip ?_
      refine W_y (s' := LS.mk 23 [(0, .t (.sl 6 (a0.map c_GApiNode))), (3, aI .i64 (w64 (v0_3_0 + (w64 (1 + (if (5000 : Int) < (x5_3.Text.length : Int) then 5000 else (x5_3.Text.length : Int))))))), (6, aI .i64 (a0.length : Int)), (7, aI .i64 (w64 (v0_7_0 + 1)))] []) mixed [qn0, qn0] ⟨[0, 3, 6, 7], [], [], [], [], [], []⟩ aN (by kernel_rfl) ?_
      exact ⟨m, ((w64 (v0_3_0 + (w64 (1 + (if (5000 : Int) < (x5_3.Text.length : Int) then 5000 else (x5_3.Text.length : Int)))))), (w64 (v0_7_0 + 1))), Nat.le_refl _, ⟨Nat.le_of_lt hlt, h⟩, convX_fits (v := ⟨[0, 3, 6, 7], [], [], [], [], [], []⟩) (s' := LS.mk 23 [(0, .t (.sl 6 (a0.map c_GApiNode))), (3, aI .i64 (w64 (v0_3_0 + (w64 (1 + (if (5000 : Int) < (x5_3.Text.length : Int) then 5000 else (x5_3.Text.length : Int))))))), (6, aI .i64 (a0.length : Int)), (7, aI .i64 (w64 (v0_7_0 + 1)))] []) (by kernel_rfl)⟩
  · have hx1002 := hb1001
    have h := if_f h hx1002
    refine W_exit ?_
    exact k_x_0 m hlt  _ h (convX_fits (v := ⟨[], [], [], [], [], [], []⟩) (s' := LS.mk 23 [] []) (by kernel_rfl))
set_option maxRecDepth 100000 in
theorem hindcastref05_Many_j1_ok (n : Nat)   (r_ : Bool) (Q' : Exit → St → Prop) (kr : ∀ (ns : List (Nat × Nat × Nat)) (s : LS) (x : Bool), retX Try.prog ns [.tmp 2] s = some (aB x) → x = r_ → Q' .ret s.st)  (h : recN hindcastref05_Many_B n (.j1 ) = some r_) : W Try.prog (subC (bodyC Try.prog 8) [1, 1, 1]) (LS.mk 23 [] []).st Q' := by
  cases n with
  | zero => cases h
  | succ m =>
  have hlt : m < m + 1 := Nat.lt_succ_self m
  replace h : hindcastref05_Many_j1_b (recN hindcastref05_Many_B m)  = some r_ := h
  unfold hindcastref05_Many_j1_b at h
  refine W_seq ?_
  refine W_y (s' := LS.mk 23 [(2, aB false)] []) mixed [qn0] ⟨[2], [], [], [], [], [], []⟩ aN (by kernel_rfl) ?_
  refine W_ret ?_
  exact kr [] _ _ (by kernel_rfl) (Option.some.inj h)
noncomputable def hindcastref05_Many (a0 : (List GApiNode)) : Option Bool :=
  hindcastref05_Many_l0 a0 0 0
set_option maxRecDepth 100000 in
theorem hindcastref05_Many_ok {a0 : (List GApiNode)} {r_ : Bool} (h : hindcastref05_Many a0 = some r_) : R_hindcastref05_Many a0 r_ := by
  unfold hindcastref05_Many at h
  refine fn_pureX (fn := Try.f8) (by kernel_rfl) (c := subC (bodyC Try.prog 8) []) (by kernel_rfl) (by kernel_rfl) (Nat.le_of_ble_eq_true (by kernel_rfl)) ?_
  generalize hQ' : retQ Try.prog Try.f8 (aB r_) = Q'
  have kr : ∀ (ns : List (Nat × Nat × Nat)) (s : LS) (x : Bool), retX Try.prog ns [.tmp 2] s = some (aB x) → x = r_ → Q' .ret s.st := by subst hQ'; intro ns s x hx hq; subst hq; exact ret_ok (fn := Try.f8) ns hx
  change W Try.prog _ (LS.mk 23 [(0, .t (.sl 6 (a0.map c_GApiNode)))] []).st Q'
  refine W_seq ?_
  refine W_y (s' := LS.mk 23 [(0, .t (.sl 6 (a0.map c_GApiNode)))] []) mixed [qn0] ⟨[0], [], [], [], [], [], []⟩ aN (by kernel_rfl) ?_
  refine W_seq ?_
  refine W_y (s' := LS.mk 23 [(0, .t (.sl 6 (a0.map c_GApiNode))), (3, aI .i64 0)] []) mixed [qn0] ⟨[0, 3], [], [], [], [], [], []⟩ aN (by kernel_rfl) ?_
  refine W_seq ?_
  refine W_seq ?_
  refine W_y (s' := LS.mk 23 [(0, .t (.sl 6 (a0.map c_GApiNode))), (3, aI .i64 0), (6, aI .i64 (a0.length : Int)), (7, aI .i64 0)] []) mixed [qn0, qn (.len a0.length), qn0] ⟨[0, 3, 6, 7], [], [], [], [], [], []⟩ (aC (len_obx c_GApiNode a0) aN) (by kernel_rfl) ?_
  refine W_block ?_
  obtain ⟨n, h⟩ := fix_rec h
  exact W_conv (s' := LS.mk 23 [(0, .t (.sl 6 (a0.map c_GApiNode))), (3, aI .i64 0), (6, aI .i64 (a0.length : Int)), (7, aI .i64 0)] []) ⟨[0, 3, 6, 7], [], [], [], [], [], []⟩ (by kernel_rfl) (hindcastref05_Many_l0_ok n a0 0 0 r_ _ kr (fun q1 hq1  s' h hf => W_pre hf (hindcastref05_Many_j1_ok q1 r_ _ kr h)) h)
def R_hindcastref05_field (a0 : GApiNode) (r : Bool) : Prop := FnP Try.prog 33 [e_GApiNode a0] (aB r)
noncomputable def hindcastref05_field_j0 (a0 : GApiNode) : Option Bool :=
  ((hindcastref05_Great a0.Text).bind fun (r4_2 : Bool) => (if r4_2 = true then (some (decide (a0.Num = 0))) else (some false)))
noncomputable def hindcastref05_field_j1 (a0 : GApiNode) : Option Bool :=
  ((hindcastref05_Name a0.Text).bind fun (r11_2 : Bool) => (if r11_2 = true then (some (decide (a0.Num = 0))) else (some false)))
set_option maxRecDepth 100000 in
theorem hindcastref05_field_j0_ok (a0 : GApiNode) (r_ : Bool) (Q' : Exit → St → Prop) (kr : ∀ (ns : List (Nat × Nat × Nat)) (s : LS) (x : Bool), retX Try.prog ns [.tmp 2] s = some (aB x) → x = r_ → Q' .ret s.st)  (h : hindcastref05_field_j0 a0 = some r_) : W Try.prog (subC (bodyC Try.prog 33) [1, 0, 1, 0, 1, 0]) (LS.mk 104 [(1, .ptr 1 0)] [(1, some (.box 32 [aI .u8 a0.Kind, aI .i64 a0.Line, aI .i64 a0.Col, aI .i64 a0.Size, aI .i64 a0.Num, aS a0.Text]))]).st Q' := by
  unfold hindcastref05_field_j0 at h
  refine W_seq ?_
  obtain ⟨r4_2, hr4_2, h⟩ := bind_ok h
  have hr4_2 := hindcastref05_Great_ok hr4_2
  refine (Bool.eq_false_or_eq_true r4_2).elim (fun hb1001 => ?_) (fun hb1001 => ?_)
  · have hx1002 := hb1001
    have h := ib_t h hx1002
    refine W_y (s' := LS.mk 104 [(2, aB (decide (a0.Num = 0)))] []) mixed [qn0, qn0, qn (.call [] (aB r4_2)), qn0, qt0, qt0, qt0, qn (.dec true), qn0] ⟨[2], [], [], [], [], [], []⟩ (aC hr4_2 (aC hx1002 (aC hx1002 (aC hx1002 (aC hx1002 aN))))) (by kernel_rfl) ?_
    refine W_ret ?_
    exact kr [] _ _ (by kernel_rfl) (Option.some.inj h)
  · have hx1002 := hb1001
    have h := ib_f h hx1002
    refine W_y (s' := LS.mk 104 [(2, aB false)] []) mixed [qn0, qn0, qn (.call [] (aB r4_2)), qn0, qf0, qf0, qf0, qn (.dec false), qn0] ⟨[2], [], [], [], [], [], []⟩ (aC hr4_2 (aC hx1002 (aC hx1002 (aC hx1002 (aC hx1002 aN))))) (by kernel_rfl) ?_
    refine W_ret ?_
    exact kr [] _ _ (by kernel_rfl) (Option.some.inj h)
set_option maxRecDepth 100000 in
theorem hindcastref05_field_j1_ok (a0 : GApiNode) (r_ : Bool) (Q' : Exit → St → Prop) (kr : ∀ (ns : List (Nat × Nat × Nat)) (s : LS) (x : Bool), retX Try.prog ns [.tmp 2] s = some (aB x) → x = r_ → Q' .ret s.st)  (h : hindcastref05_field_j1 a0 = some r_) : W Try.prog (subC (bodyC Try.prog 33) [1, 0, 1, 0, 1, 1, 1, 0]) (LS.mk 104 [(1, .ptr 1 0)] [(1, some (.box 32 [aI .u8 a0.Kind, aI .i64 a0.Line, aI .i64 a0.Col, aI .i64 a0.Size, aI .i64 a0.Num, aS a0.Text]))]).st Q' := by
  unfold hindcastref05_field_j1 at h
  refine W_seq ?_
  obtain ⟨r11_2, hr11_2, h⟩ := bind_ok h
  have hr11_2 := hindcastref05_Name_ok hr11_2
  refine (Bool.eq_false_or_eq_true r11_2).elim (fun hb2001 => ?_) (fun hb2001 => ?_)
  · have hx2002 := hb2001
    have h := ib_t h hx2002
    refine W_y (s' := LS.mk 104 [(2, aB (decide (a0.Num = 0)))] []) mixed [qn0, qn0, qn (.call [] (aB r11_2)), qn0, qt0, qt0, qt0, qn (.dec true), qn0] ⟨[2], [], [], [], [], [], []⟩ (aC hr11_2 (aC hx2002 (aC hx2002 (aC hx2002 (aC hx2002 aN))))) (by kernel_rfl) ?_
    refine W_ret ?_
    exact kr [] _ _ (by kernel_rfl) (Option.some.inj h)
  · have hx2002 := hb2001
    have h := ib_f h hx2002
    refine W_y (s' := LS.mk 104 [(2, aB false)] []) mixed [qn0, qn0, qn (.call [] (aB r11_2)), qn0, qf0, qf0, qf0, qn (.dec false), qn0] ⟨[2], [], [], [], [], [], []⟩ (aC hr11_2 (aC hx2002 (aC hx2002 (aC hx2002 (aC hx2002 aN))))) (by kernel_rfl) ?_
    refine W_ret ?_
    exact kr [] _ _ (by kernel_rfl) (Option.some.inj h)
noncomputable def hindcastref05_field (a0 : GApiNode) : Option Bool :=
  (if a0.Kind = 2 then hindcastref05_field_j0 a0 else (if a0.Kind = 19 then hindcastref05_field_j0 a0 else (if a0.Kind = 3 then hindcastref05_field_j1 a0 else (if a0.Kind = 5 then hindcastref05_field_j1 a0 else (if a0.Kind = 7 then hindcastref05_field_j1 a0 else (if a0.Kind = 26 then hindcastref05_field_j1 a0 else (if a0.Kind = 27 then hindcastref05_field_j1 a0 else (if a0.Kind = 29 then hindcastref05_field_j1 a0 else (if a0.Kind = 4 then ((hindcastref05_Name a0.Text).bind fun (r13_2 : Bool) => (some r13_2)) else (if a0.Kind = 23 then (some (decide (a0.Num = 0))) else (if a0.Text = ([] : List UInt8) then (if a0.Kind = 21 then (some (decide (a0.Num ≥ 0))) else (if a0.Kind = 22 then (if a0.Num ≥ 0 then (some (decide (a0.Num < 8388608))) else (some false)) else (if a0.Kind = 24 then (if a0.Num = 0 then (some true) else (some (decide (a0.Num = 1)))) else (if a0.Kind = 30 then (if a0.Num = 12 then (some true) else (some (decide (a0.Num = 13)))) else (if a0.Kind = 31 then (if a0.Num ≥ 1 then (if a0.Num ≤ 11 then (some true) else (if a0.Num = 14 then (some true) else (some (decide (a0.Num = 15))))) else (if a0.Num = 14 then (some true) else (some (decide (a0.Num = 15))))) else (some (decide (a0.Num = 0)))))))) else (some false))))))))))))
set_option maxRecDepth 100000 in
theorem hindcastref05_field_ok {a0 : GApiNode} {r_ : Bool} (h : hindcastref05_field a0 = some r_) : R_hindcastref05_field a0 r_ := by
  unfold hindcastref05_field at h
  refine fn_pureX (fn := Try.f33) (by kernel_rfl) (c := subC (bodyC Try.prog 33) []) (by kernel_rfl) (by kernel_rfl) (Nat.le_of_ble_eq_true (by kernel_rfl)) ?_
  generalize hQ' : retQ Try.prog Try.f33 (aB r_) = Q'
  have kr : ∀ (ns : List (Nat × Nat × Nat)) (s : LS) (x : Bool), retX Try.prog ns [.tmp 2] s = some (aB x) → x = r_ → Q' .ret s.st := by subst hQ'; intro ns s x hx hq; subst hq; exact ret_ok (fn := Try.f33) ns hx
  change W Try.prog _ (LS.mk 104 [(0, e_GApiNode a0)] []).st Q'
  refine W_seq ?_
  refine W_y (s' := LS.mk 104 [(1, .ptr 1 0)] [(1, some (.box 32 [aI .u8 a0.Kind, aI .i64 a0.Line, aI .i64 a0.Col, aI .i64 a0.Size, aI .i64 a0.Num, aS a0.Text]))]) mixed [qn0, qn0] ⟨[1], [], [1], [], [], [], []⟩ aN (by kernel_rfl) ?_
  refine W_seq ?_
  refine W_seq ?_
  refine W_y (s' := LS.mk 104 [(1, .ptr 1 0), (4, aI .u8 a0.Kind)] [(1, some (.box 32 [aI .u8 a0.Kind, aI .i64 a0.Line, aI .i64 a0.Col, aI .i64 a0.Size, aI .i64 a0.Num, aS a0.Text]))]) mixed [qn0, qn0] ⟨[1, 4], [], [1], [], [], [], []⟩ aN (by kernel_rfl) ?_
  refine W_block ?_
  refine W_seq ?_
  refine W_seq ?_
  refine W_y (s' := LS.mk 104 [(1, .ptr 1 0), (4, aI .u8 a0.Kind), (5, aB (decide (a0.Kind = 2)))] [(1, some (.box 32 [aI .u8 a0.Kind, aI .i64 a0.Line, aI .i64 a0.Col, aI .i64 a0.Size, aI .i64 a0.Num, aS a0.Text]))]) mixed [qn0, qn0] ⟨[1, 4, 5], [], [1], [], [], [], []⟩ aN (by kernel_rfl) ?_
  refine W_cond (decide (a0.Kind = 2)) (by kernel_rfl) (fun hb1 => ?_) (fun hb1 => ?_)
  · have hx2 := hb1
    have h := if_t h hx2
    refine W_skip ?_
    refine W_cond (decide (a0.Kind = 2)) (by kernel_rfl) (fun _ => ?_) (fun hb => nomatch ((hx2 : (decide (a0.Kind = 2)) = true).symm.trans hb))
    exact W_conv (s' := LS.mk 104 [(1, .ptr 1 0)] [(1, some (.box 32 [aI .u8 a0.Kind, aI .i64 a0.Line, aI .i64 a0.Col, aI .i64 a0.Size, aI .i64 a0.Num, aS a0.Text]))]) ⟨[1], [], [1], [], [], [], []⟩ (by kernel_rfl) (hindcastref05_field_j0_ok a0 r_ _ kr h)
  · have hx2 := hb1
    have h := if_f h hx2
    refine W_y (s' := LS.mk 104 [(1, .ptr 1 0), (4, aI .u8 a0.Kind), (5, aB (decide (a0.Kind = 19)))] [(1, some (.box 32 [aI .u8 a0.Kind, aI .i64 a0.Line, aI .i64 a0.Col, aI .i64 a0.Size, aI .i64 a0.Num, aS a0.Text]))]) mixed [qn0, qn0] ⟨[1, 4, 5], [], [1], [], [], [], []⟩ aN (by kernel_rfl) ?_
    refine W_cond (decide (a0.Kind = 19)) (by kernel_rfl) (fun hb3 => ?_) (fun hb3 => ?_)
    · have hx4 := hb3
      have h := if_t h hx4
      exact W_conv (s' := LS.mk 104 [(1, .ptr 1 0)] [(1, some (.box 32 [aI .u8 a0.Kind, aI .i64 a0.Line, aI .i64 a0.Col, aI .i64 a0.Size, aI .i64 a0.Num, aS a0.Text]))]) ⟨[1], [], [1], [], [], [], []⟩ (by kernel_rfl) (hindcastref05_field_j0_ok a0 r_ _ kr h)
    · have hx4 := hb3
      have h := if_f h hx4
      refine W_seq ?_
      refine W_seq ?_
      refine W_y (s' := LS.mk 104 [(1, .ptr 1 0), (4, aI .u8 a0.Kind), (16, aB (decide (a0.Kind = 3)))] [(1, some (.box 32 [aI .u8 a0.Kind, aI .i64 a0.Line, aI .i64 a0.Col, aI .i64 a0.Size, aI .i64 a0.Num, aS a0.Text]))]) mixed [qn0, qn0] ⟨[1, 4, 16], [], [1], [], [], [], []⟩ aN (by kernel_rfl) ?_
      refine W_cond (decide (a0.Kind = 3)) (by kernel_rfl) (fun hb5 => ?_) (fun hb5 => ?_)
      · have hx6 := hb5
        have h := if_t h hx6
        refine W_skip ?_
        refine W_cond (decide (a0.Kind = 3)) (by kernel_rfl) (fun _ => ?_) (fun hb => nomatch ((hx6 : (decide (a0.Kind = 3)) = true).symm.trans hb))
        exact W_conv (s' := LS.mk 104 [(1, .ptr 1 0)] [(1, some (.box 32 [aI .u8 a0.Kind, aI .i64 a0.Line, aI .i64 a0.Col, aI .i64 a0.Size, aI .i64 a0.Num, aS a0.Text]))]) ⟨[1], [], [1], [], [], [], []⟩ (by kernel_rfl) (hindcastref05_field_j1_ok a0 r_ _ kr h)
      · have hx6 := hb5
        have h := if_f h hx6
        refine W_seq ?_
        refine W_y (s' := LS.mk 104 [(1, .ptr 1 0), (4, aI .u8 a0.Kind), (16, aB (decide (a0.Kind = 5)))] [(1, some (.box 32 [aI .u8 a0.Kind, aI .i64 a0.Line, aI .i64 a0.Col, aI .i64 a0.Size, aI .i64 a0.Num, aS a0.Text]))]) mixed [qn0, qn0] ⟨[1, 4, 16], [], [1], [], [], [], []⟩ aN (by kernel_rfl) ?_
        refine W_cond (decide (a0.Kind = 5)) (by kernel_rfl) (fun hb7 => ?_) (fun hb7 => ?_)
        · have hx8 := hb7
          have h := if_t h hx8
          refine W_skip ?_
          refine W_cond (decide (a0.Kind = 5)) (by kernel_rfl) (fun _ => ?_) (fun hb => nomatch ((hx8 : (decide (a0.Kind = 5)) = true).symm.trans hb))
          exact W_conv (s' := LS.mk 104 [(1, .ptr 1 0)] [(1, some (.box 32 [aI .u8 a0.Kind, aI .i64 a0.Line, aI .i64 a0.Col, aI .i64 a0.Size, aI .i64 a0.Num, aS a0.Text]))]) ⟨[1], [], [1], [], [], [], []⟩ (by kernel_rfl) (hindcastref05_field_j1_ok a0 r_ _ kr h)
        · have hx8 := hb7
          have h := if_f h hx8
          refine W_seq ?_
          refine W_y (s' := LS.mk 104 [(1, .ptr 1 0), (4, aI .u8 a0.Kind), (16, aB (decide (a0.Kind = 7)))] [(1, some (.box 32 [aI .u8 a0.Kind, aI .i64 a0.Line, aI .i64 a0.Col, aI .i64 a0.Size, aI .i64 a0.Num, aS a0.Text]))]) mixed [qn0, qn0] ⟨[1, 4, 16], [], [1], [], [], [], []⟩ aN (by kernel_rfl) ?_
          refine W_cond (decide (a0.Kind = 7)) (by kernel_rfl) (fun hb9 => ?_) (fun hb9 => ?_)
          · have hx10 := hb9
            have h := if_t h hx10
            refine W_skip ?_
            refine W_cond (decide (a0.Kind = 7)) (by kernel_rfl) (fun _ => ?_) (fun hb => nomatch ((hx10 : (decide (a0.Kind = 7)) = true).symm.trans hb))
            exact W_conv (s' := LS.mk 104 [(1, .ptr 1 0)] [(1, some (.box 32 [aI .u8 a0.Kind, aI .i64 a0.Line, aI .i64 a0.Col, aI .i64 a0.Size, aI .i64 a0.Num, aS a0.Text]))]) ⟨[1], [], [1], [], [], [], []⟩ (by kernel_rfl) (hindcastref05_field_j1_ok a0 r_ _ kr h)
          · have hx10 := hb9
            have h := if_f h hx10
            refine W_seq ?_
            refine W_y (s' := LS.mk 104 [(1, .ptr 1 0), (4, aI .u8 a0.Kind), (16, aB (decide (a0.Kind = 26)))] [(1, some (.box 32 [aI .u8 a0.Kind, aI .i64 a0.Line, aI .i64 a0.Col, aI .i64 a0.Size, aI .i64 a0.Num, aS a0.Text]))]) mixed [qn0, qn0] ⟨[1, 4, 16], [], [1], [], [], [], []⟩ aN (by kernel_rfl) ?_
            refine W_cond (decide (a0.Kind = 26)) (by kernel_rfl) (fun hb11 => ?_) (fun hb11 => ?_)
            · have hx12 := hb11
              have h := if_t h hx12
              refine W_skip ?_
              refine W_cond (decide (a0.Kind = 26)) (by kernel_rfl) (fun _ => ?_) (fun hb => nomatch ((hx12 : (decide (a0.Kind = 26)) = true).symm.trans hb))
              exact W_conv (s' := LS.mk 104 [(1, .ptr 1 0)] [(1, some (.box 32 [aI .u8 a0.Kind, aI .i64 a0.Line, aI .i64 a0.Col, aI .i64 a0.Size, aI .i64 a0.Num, aS a0.Text]))]) ⟨[1], [], [1], [], [], [], []⟩ (by kernel_rfl) (hindcastref05_field_j1_ok a0 r_ _ kr h)
            · have hx12 := hb11
              have h := if_f h hx12
              refine W_seq ?_
              refine W_y (s' := LS.mk 104 [(1, .ptr 1 0), (4, aI .u8 a0.Kind), (16, aB (decide (a0.Kind = 27)))] [(1, some (.box 32 [aI .u8 a0.Kind, aI .i64 a0.Line, aI .i64 a0.Col, aI .i64 a0.Size, aI .i64 a0.Num, aS a0.Text]))]) mixed [qn0, qn0] ⟨[1, 4, 16], [], [1], [], [], [], []⟩ aN (by kernel_rfl) ?_
              refine W_cond (decide (a0.Kind = 27)) (by kernel_rfl) (fun hb13 => ?_) (fun hb13 => ?_)
              · have hx14 := hb13
                have h := if_t h hx14
                refine W_skip ?_
                refine W_cond (decide (a0.Kind = 27)) (by kernel_rfl) (fun _ => ?_) (fun hb => nomatch ((hx14 : (decide (a0.Kind = 27)) = true).symm.trans hb))
                exact W_conv (s' := LS.mk 104 [(1, .ptr 1 0)] [(1, some (.box 32 [aI .u8 a0.Kind, aI .i64 a0.Line, aI .i64 a0.Col, aI .i64 a0.Size, aI .i64 a0.Num, aS a0.Text]))]) ⟨[1], [], [1], [], [], [], []⟩ (by kernel_rfl) (hindcastref05_field_j1_ok a0 r_ _ kr h)
              · have hx14 := hb13
                have h := if_f h hx14
                refine W_y (s' := LS.mk 104 [(1, .ptr 1 0), (4, aI .u8 a0.Kind), (16, aB (decide (a0.Kind = 29)))] [(1, some (.box 32 [aI .u8 a0.Kind, aI .i64 a0.Line, aI .i64 a0.Col, aI .i64 a0.Size, aI .i64 a0.Num, aS a0.Text]))]) mixed [qn0, qn0] ⟨[1, 4, 16], [], [1], [], [], [], []⟩ aN (by kernel_rfl) ?_
                refine W_cond (decide (a0.Kind = 29)) (by kernel_rfl) (fun hb15 => ?_) (fun hb15 => ?_)
                · have hx16 := hb15
                  have h := if_t h hx16
                  exact W_conv (s' := LS.mk 104 [(1, .ptr 1 0)] [(1, some (.box 32 [aI .u8 a0.Kind, aI .i64 a0.Line, aI .i64 a0.Col, aI .i64 a0.Size, aI .i64 a0.Num, aS a0.Text]))]) ⟨[1], [], [1], [], [], [], []⟩ (by kernel_rfl) (hindcastref05_field_j1_ok a0 r_ _ kr h)
                · have hx16 := hb15
                  have h := if_f h hx16
                  refine W_seq ?_
                  refine W_y (s' := LS.mk 104 [(1, .ptr 1 0), (4, aI .u8 a0.Kind), (31, aB (decide (a0.Kind = 4)))] [(1, some (.box 32 [aI .u8 a0.Kind, aI .i64 a0.Line, aI .i64 a0.Col, aI .i64 a0.Size, aI .i64 a0.Num, aS a0.Text]))]) mixed [qn0, qn0] ⟨[1, 4, 31], [], [1], [], [], [], []⟩ aN (by kernel_rfl) ?_
                  refine W_cond (decide (a0.Kind = 4)) (by kernel_rfl) (fun hb17 => ?_) (fun hb17 => ?_)
                  · have hx18 := hb17
                    have h := if_t h hx18
                    refine W_seq ?_
                    obtain ⟨r13_2, hr13_2, h⟩ := bind_ok h
                    have hr13_2 := hindcastref05_Name_ok hr13_2
                    refine W_y (s' := LS.mk 104 [(2, aB r13_2)] []) mixed [qn0, qn0, qn (.call [] (aB r13_2)), qn0] ⟨[2], [], [], [], [], [], []⟩ (aC hr13_2 aN) (by kernel_rfl) ?_
                    refine W_ret ?_
                    exact kr [] _ _ (by kernel_rfl) (Option.some.inj h)
                  · have hx18 := hb17
                    have h := if_f h hx18
                    refine W_seq ?_
                    refine W_y (s' := LS.mk 104 [(1, .ptr 1 0), (36, aB (decide (a0.Kind = 23)))] [(1, some (.box 32 [aI .u8 a0.Kind, aI .i64 a0.Line, aI .i64 a0.Col, aI .i64 a0.Size, aI .i64 a0.Num, aS a0.Text]))]) mixed [qn0, qn0] ⟨[1, 36], [], [1], [], [], [], []⟩ aN (by kernel_rfl) ?_
                    refine W_cond (decide (a0.Kind = 23)) (by kernel_rfl) (fun hb19 => ?_) (fun hb19 => ?_)
                    · have hx20 := hb19
                      have h := if_t h hx20
                      refine W_seq ?_
                      refine W_y (s' := LS.mk 104 [(2, aB (decide (a0.Num = 0)))] []) mixed [qn0, qn0, qn0, qn0] ⟨[2], [], [], [], [], [], []⟩ aN (by kernel_rfl) ?_
                      refine W_ret ?_
                      exact kr [] _ _ (by kernel_rfl) (Option.some.inj h)
                    · have hx20 := hb19
                      have h := if_f h hx20
                      refine W_skip ?_
                      refine W_seq ?_
                      refine W_seq ?_
                      refine W_y (s' := LS.mk 104 [(1, .ptr 1 0), (43, aB (!(decide (a0.Text = ([] : List UInt8)))))] [(1, some (.box 32 [aI .u8 a0.Kind, aI .i64 a0.Line, aI .i64 a0.Col, aI .i64 a0.Size, aI .i64 a0.Num, aS a0.Text]))]) mixed [qn0, qn0, qn (.val (.bool (!(decide (a0.Text = ([] : List UInt8))))))] ⟨[1, 43], [], [1], [], [], [], []⟩ (aC (str_ne_ob (P := Try.prog) 9 a0.Text ([] : List UInt8)) aN) (by kernel_rfl) ?_
                      refine W_cond (!(decide (a0.Text = ([] : List UInt8)))) (by kernel_rfl) (fun hb21 => ?_) (fun hb21 => ?_)
                      · have hx22 : (decide (a0.Text = ([] : List UInt8))) = false := (bnot_t hb21)
                        have h := if_f h hx22
                        refine W_seq ?_
                        refine W_y (s' := LS.mk 104 [(2, aB false)] []) mixed [qn0] ⟨[2], [], [], [], [], [], []⟩ aN (by kernel_rfl) ?_
                        refine W_ret ?_
                        exact kr [] _ _ (by kernel_rfl) (Option.some.inj h)
                      · have hx22 : (decide (a0.Text = ([] : List UInt8))) = true := (bnot_f hb21)
                        have h := if_t h hx22
                        refine W_skip ?_
                        refine W_seq ?_
                        refine W_seq ?_
                        refine W_y (s' := LS.mk 104 [(1, .ptr 1 0), (45, aI .u8 a0.Kind)] [(1, some (.box 32 [aI .u8 a0.Kind, aI .i64 a0.Line, aI .i64 a0.Col, aI .i64 a0.Size, aI .i64 a0.Num, aS a0.Text]))]) mixed [qn0, qn0] ⟨[1, 45], [], [1], [], [], [], []⟩ aN (by kernel_rfl) ?_
                        refine W_block ?_
                        refine W_seq ?_
                        refine W_y (s' := LS.mk 104 [(1, .ptr 1 0), (45, aI .u8 a0.Kind), (46, aB (decide (a0.Kind = 21)))] [(1, some (.box 32 [aI .u8 a0.Kind, aI .i64 a0.Line, aI .i64 a0.Col, aI .i64 a0.Size, aI .i64 a0.Num, aS a0.Text]))]) mixed [qn0, qn0] ⟨[1, 45, 46], [], [1], [], [], [], []⟩ aN (by kernel_rfl) ?_
                        refine W_cond (decide (a0.Kind = 21)) (by kernel_rfl) (fun hb23 => ?_) (fun hb23 => ?_)
                        · have hx24 := hb23
                          have h := if_t h hx24
                          refine W_seq ?_
                          refine W_y (s' := LS.mk 104 [(2, aB (decide (a0.Num ≥ 0)))] []) mixed [qn0, qn0, qn0, qn0] ⟨[2], [], [], [], [], [], []⟩ aN (by kernel_rfl) ?_
                          refine W_ret ?_
                          exact kr [] _ _ (by kernel_rfl) (Option.some.inj h)
                        · have hx24 := hb23
                          have h := if_f h hx24
                          refine W_seq ?_
                          refine W_y (s' := LS.mk 104 [(1, .ptr 1 0), (45, aI .u8 a0.Kind), (51, aB (decide (a0.Kind = 22)))] [(1, some (.box 32 [aI .u8 a0.Kind, aI .i64 a0.Line, aI .i64 a0.Col, aI .i64 a0.Size, aI .i64 a0.Num, aS a0.Text]))]) mixed [qn0, qn0] ⟨[1, 45, 51], [], [1], [], [], [], []⟩ aN (by kernel_rfl) ?_
                          refine W_cond (decide (a0.Kind = 22)) (by kernel_rfl) (fun hb25 => ?_) (fun hb25 => ?_)
                          · have hx26 := hb25
                            have h := if_t h hx26
                            refine W_seq ?_
                            refine (Bool.eq_false_or_eq_true (decide (a0.Num ≥ 0))).elim (fun hb27 => ?_) (fun hb27 => ?_)
                            · have hx28 := hb27
                              have h := if_t h hx28
                              refine W_y (s' := LS.mk 104 [(2, aB (decide (a0.Num < 8388608)))] []) mixed [qn0, qn0, qn0, qn0, qt0, qt0, qt0, qn (.dec true), qn0] ⟨[2], [], [], [], [], [], []⟩ (aC hx28 (aC hx28 (aC hx28 (aC hx28 aN)))) (by kernel_rfl) ?_
                              refine W_ret ?_
                              exact kr [] _ _ (by kernel_rfl) (Option.some.inj h)
                            · have hx28 := hb27
                              have h := if_f h hx28
                              refine W_y (s' := LS.mk 104 [(2, aB false)] []) mixed [qn0, qn0, qn0, qn0, qf0, qf0, qf0, qn (.dec false), qn0] ⟨[2], [], [], [], [], [], []⟩ (aC hx28 (aC hx28 (aC hx28 (aC hx28 aN)))) (by kernel_rfl) ?_
                              refine W_ret ?_
                              exact kr [] _ _ (by kernel_rfl) (Option.some.inj h)
                          · have hx26 := hb25
                            have h := if_f h hx26
                            refine W_seq ?_
                            refine W_y (s' := LS.mk 104 [(1, .ptr 1 0), (45, aI .u8 a0.Kind), (61, aB (decide (a0.Kind = 24)))] [(1, some (.box 32 [aI .u8 a0.Kind, aI .i64 a0.Line, aI .i64 a0.Col, aI .i64 a0.Size, aI .i64 a0.Num, aS a0.Text]))]) mixed [qn0, qn0] ⟨[1, 45, 61], [], [1], [], [], [], []⟩ aN (by kernel_rfl) ?_
                            refine W_cond (decide (a0.Kind = 24)) (by kernel_rfl) (fun hb29 => ?_) (fun hb29 => ?_)
                            · have hx30 := hb29
                              have h := if_t h hx30
                              refine W_seq ?_
                              refine (Bool.eq_false_or_eq_true (decide (a0.Num = 0))).elim (fun hb31 => ?_) (fun hb31 => ?_)
                              · have hx32 := hb31
                                have h := if_t h hx32
                                refine W_y (s' := LS.mk 104 [(2, aB true)] []) mixed [qn0, qn0, qn0, qn0, qt0, qt0, qt0, qn (.dec true), qn0] ⟨[2], [], [], [], [], [], []⟩ (aC hx32 (aC hx32 (aC hx32 (aC hx32 aN)))) (by kernel_rfl) ?_
                                refine W_ret ?_
                                exact kr [] _ _ (by kernel_rfl) (Option.some.inj h)
                              · have hx32 := hb31
                                have h := if_f h hx32
                                refine W_y (s' := LS.mk 104 [(2, aB (decide (a0.Num = 1)))] []) mixed [qn0, qn0, qn0, qn0, qf0, qf0, qf0, qn (.dec false), qn0] ⟨[2], [], [], [], [], [], []⟩ (aC hx32 (aC hx32 (aC hx32 (aC hx32 aN)))) (by kernel_rfl) ?_
                                refine W_ret ?_
                                exact kr [] _ _ (by kernel_rfl) (Option.some.inj h)
                            · have hx30 := hb29
                              have h := if_f h hx30
                              refine W_seq ?_
                              refine W_y (s' := LS.mk 104 [(1, .ptr 1 0), (45, aI .u8 a0.Kind), (71, aB (decide (a0.Kind = 30)))] [(1, some (.box 32 [aI .u8 a0.Kind, aI .i64 a0.Line, aI .i64 a0.Col, aI .i64 a0.Size, aI .i64 a0.Num, aS a0.Text]))]) mixed [qn0, qn0] ⟨[1, 45, 71], [], [1], [], [], [], []⟩ aN (by kernel_rfl) ?_
                              refine W_cond (decide (a0.Kind = 30)) (by kernel_rfl) (fun hb33 => ?_) (fun hb33 => ?_)
                              · have hx34 := hb33
                                have h := if_t h hx34
                                refine W_seq ?_
                                refine (Bool.eq_false_or_eq_true (decide (a0.Num = 12))).elim (fun hb35 => ?_) (fun hb35 => ?_)
                                · have hx36 := hb35
                                  have h := if_t h hx36
                                  refine W_y (s' := LS.mk 104 [(2, aB true)] []) mixed [qn0, qn0, qn0, qn0, qt0, qt0, qt0, qn (.dec true), qn0] ⟨[2], [], [], [], [], [], []⟩ (aC hx36 (aC hx36 (aC hx36 (aC hx36 aN)))) (by kernel_rfl) ?_
                                  refine W_ret ?_
                                  exact kr [] _ _ (by kernel_rfl) (Option.some.inj h)
                                · have hx36 := hb35
                                  have h := if_f h hx36
                                  refine W_y (s' := LS.mk 104 [(2, aB (decide (a0.Num = 13)))] []) mixed [qn0, qn0, qn0, qn0, qf0, qf0, qf0, qn (.dec false), qn0] ⟨[2], [], [], [], [], [], []⟩ (aC hx36 (aC hx36 (aC hx36 (aC hx36 aN)))) (by kernel_rfl) ?_
                                  refine W_ret ?_
                                  exact kr [] _ _ (by kernel_rfl) (Option.some.inj h)
                              · have hx34 := hb33
                                have h := if_f h hx34
                                refine W_seq ?_
                                refine W_y (s' := LS.mk 104 [(1, .ptr 1 0), (81, aB (decide (a0.Kind = 31)))] [(1, some (.box 32 [aI .u8 a0.Kind, aI .i64 a0.Line, aI .i64 a0.Col, aI .i64 a0.Size, aI .i64 a0.Num, aS a0.Text]))]) mixed [qn0, qn0] ⟨[1, 81], [], [1], [], [], [], []⟩ aN (by kernel_rfl) ?_
                                refine W_cond (decide (a0.Kind = 31)) (by kernel_rfl) (fun hb37 => ?_) (fun hb37 => ?_)
                                · have hx38 := hb37
                                  have h := if_t h hx38
                                  refine W_seq ?_
                                  refine (Bool.eq_false_or_eq_true (decide (a0.Num ≥ 1))).elim (fun hb39 => ?_) (fun hb39 => ?_)
                                  · have hx40 := hb39
                                    have h := if_t h hx40
                                    refine (Bool.eq_false_or_eq_true (decide (a0.Num ≤ 11))).elim (fun hb41 => ?_) (fun hb41 => ?_)
                                    · have hx42 := hb41
                                      have h := if_t h hx42
                                      refine W_y (s' := LS.mk 104 [(2, aB true)] []) mixed [qn0, qn0, qn0, qn0, qt0, qt0, qt0, qn (.dec true), qn0, qt0, qt0, qt0, qn (.dec true), qn0, qn0, qn0, qn0, qn0, qn0] ⟨[2], [], [], [], [], [], []⟩ (aC hx40 (aC hx40 (aC hx40 (aC hx40 (aC hx42 (aC hx42 (aC hx42 (aC hx42 aN)))))))) (by kernel_rfl) ?_
                                      refine W_ret ?_
                                      exact kr [] _ _ (by kernel_rfl) (Option.some.inj h)
                                    · have hx42 := hb41
                                      have h := if_f h hx42
                                      refine (Bool.eq_false_or_eq_true (decide (a0.Num = 14))).elim (fun hb43 => ?_) (fun hb43 => ?_)
                                      · have hx44 := hb43
                                        have h := if_t h hx44
                                        refine W_y (s' := LS.mk 104 [(2, aB true)] []) mixed [qn0, qn0, qn0, qn0, qt0, qt0, qt0, qn (.dec true), qn0, qf0, qf0, qf0, qn (.dec false), qn0, qt0, qt0, qt0, qn (.dec true), qn0] ⟨[2], [], [], [], [], [], []⟩ (aC hx40 (aC hx40 (aC hx40 (aC hx40 (aC hx42 (aC hx42 (aC hx42 (aC hx42 (aC hx44 (aC hx44 (aC hx44 (aC hx44 aN)))))))))))) (by kernel_rfl) ?_
                                        refine W_ret ?_
                                        exact kr [] _ _ (by kernel_rfl) (Option.some.inj h)
                                      · have hx44 := hb43
                                        have h := if_f h hx44
                                        refine W_y (s' := LS.mk 104 [(2, aB (decide (a0.Num = 15)))] []) mixed [qn0, qn0, qn0, qn0, qt0, qt0, qt0, qn (.dec true), qn0, qf0, qf0, qf0, qn (.dec false), qn0, qf0, qf0, qf0, qn (.dec false), qn0] ⟨[2], [], [], [], [], [], []⟩ (aC hx40 (aC hx40 (aC hx40 (aC hx40 (aC hx42 (aC hx42 (aC hx42 (aC hx42 (aC hx44 (aC hx44 (aC hx44 (aC hx44 aN)))))))))))) (by kernel_rfl) ?_
                                        refine W_ret ?_
                                        exact kr [] _ _ (by kernel_rfl) (Option.some.inj h)
                                  · have hx40 := hb39
                                    have h := if_f h hx40
                                    refine (Bool.eq_false_or_eq_true (decide (a0.Num = 14))).elim (fun hb45 => ?_) (fun hb45 => ?_)
                                    · have hx46 := hb45
                                      have h := if_t h hx46
                                      refine W_y (s' := LS.mk 104 [(2, aB true)] []) mixed [qn0, qn0, qn0, qn0, qf0, qf0, qf0, qn (.dec false), qn0, qn0, qn0, qn0, qn0, qn0, qt0, qt0, qt0, qn (.dec true), qn0] ⟨[2], [], [], [], [], [], []⟩ (aC hx40 (aC hx40 (aC hx40 (aC hx40 (aC hx46 (aC hx46 (aC hx46 (aC hx46 aN)))))))) (by kernel_rfl) ?_
                                      refine W_ret ?_
                                      exact kr [] _ _ (by kernel_rfl) (Option.some.inj h)
                                    · have hx46 := hb45
                                      have h := if_f h hx46
                                      refine W_y (s' := LS.mk 104 [(2, aB (decide (a0.Num = 15)))] []) mixed [qn0, qn0, qn0, qn0, qf0, qf0, qf0, qn (.dec false), qn0, qn0, qn0, qn0, qn0, qn0, qf0, qf0, qf0, qn (.dec false), qn0] ⟨[2], [], [], [], [], [], []⟩ (aC hx40 (aC hx40 (aC hx40 (aC hx40 (aC hx46 (aC hx46 (aC hx46 (aC hx46 aN)))))))) (by kernel_rfl) ?_
                                      refine W_ret ?_
                                      exact kr [] _ _ (by kernel_rfl) (Option.some.inj h)
                                · have hx38 := hb37
                                  have h := if_f h hx38
                                  refine W_skip ?_
                                  refine W_seq ?_
                                  refine W_y (s' := LS.mk 104 [(2, aB (decide (a0.Num = 0)))] []) mixed [qn0, qn0, qn0, qn0] ⟨[2], [], [], [], [], [], []⟩ aN (by kernel_rfl) ?_
                                  refine W_ret ?_
                                  exact kr [] _ _ (by kernel_rfl) (Option.some.inj h)
def R_hindcastref05_sort (a0 : GApiNode) (r : Int) : Prop := FnP Try.prog 48 [e_GApiNode a0] (aI .u8 r)
noncomputable def hindcastref05_sort_j3  : Option Int :=
  (some 45)
noncomputable def hindcastref05_sort_j0 (a0 : GApiNode) : Option Int :=
  (if a0.Kind = 6 then (some 98) else (if a0.Kind = 5 then (some 112) else (if a0.Kind = 3 then (some 102) else (if a0.Kind = 2 then (some 100) else (if a0.Kind = 4 then (some 100) else hindcastref05_sort_j3)))))
noncomputable def hindcastref05_sort_j1 (a0 : GApiNode) : Option Int :=
  (if a0.Kind ≥ 7 then (if a0.Kind ≤ 13 then (some 115) else hindcastref05_sort_j0 a0) else hindcastref05_sort_j0 a0)
noncomputable def hindcastref05_sort_j2 (a0 : GApiNode) : Option Int :=
  (if a0.Kind ≥ 21 then (if a0.Kind ≤ 32 then (some 101) else hindcastref05_sort_j1 a0) else hindcastref05_sort_j1 a0)
set_option maxRecDepth 100000 in
theorem hindcastref05_sort_j0_ok (a0 : GApiNode) (r_ : Int) (Q' : Exit → St → Prop) (kr : ∀ (ns : List (Nat × Nat × Nat)) (s : LS) (x : Int), retX Try.prog ns [.tmp 2] s = some (aI .u8 x) → x = r_ → Q' .ret s.st) (k_n : ∀  (s' : LS), hindcastref05_sort_j3  = some r_ → Fits s'.st (LS.mk 55 [] []).st → Q' .normal s'.st) (h : hindcastref05_sort_j0 a0 = some r_) : W Try.prog (subC (bodyC Try.prog 48) [1, 0, 0, 1, 1, 1, 1, 1, 1, 1, 1]) (LS.mk 55 [(1, .ptr 1 0)] [(1, some (.box 32 [aI .u8 a0.Kind, aI .i64 a0.Line, aI .i64 a0.Col, aI .i64 a0.Size, aI .i64 a0.Num, aS a0.Text]))]).st Q' := by
  unfold hindcastref05_sort_j0 at h
  refine W_seq ?_
  refine W_y (s' := LS.mk 55 [(1, .ptr 1 0), (34, aB (decide (a0.Kind = 6)))] [(1, some (.box 32 [aI .u8 a0.Kind, aI .i64 a0.Line, aI .i64 a0.Col, aI .i64 a0.Size, aI .i64 a0.Num, aS a0.Text]))]) mixed [qn0, qn0, qn0, qn0] ⟨[1, 34], [], [1], [], [], [], []⟩ aN (by kernel_rfl) ?_
  refine W_cond (decide (a0.Kind = 6)) (by kernel_rfl) (fun hb1001 => ?_) (fun hb1001 => ?_)
  · have hx1002 := hb1001
    have h := if_t h hx1002
    refine W_seq ?_
    refine W_y (s' := LS.mk 55 [(2, aI .u8 98)] []) mixed [qn0] ⟨[2], [], [], [], [], [], []⟩ aN (by kernel_rfl) ?_
    refine W_ret ?_
    exact kr [] _ _ (by kernel_rfl) (Option.some.inj h)
  · have hx1002 := hb1001
    have h := if_f h hx1002
    refine W_seq ?_
    refine W_y (s' := LS.mk 55 [(1, .ptr 1 0), (38, aB (decide (a0.Kind = 5)))] [(1, some (.box 32 [aI .u8 a0.Kind, aI .i64 a0.Line, aI .i64 a0.Col, aI .i64 a0.Size, aI .i64 a0.Num, aS a0.Text]))]) mixed [qn0, qn0, qn0, qn0] ⟨[1, 38], [], [1], [], [], [], []⟩ aN (by kernel_rfl) ?_
    refine W_cond (decide (a0.Kind = 5)) (by kernel_rfl) (fun hb1003 => ?_) (fun hb1003 => ?_)
    · have hx1004 := hb1003
      have h := if_t h hx1004
      refine W_seq ?_
      refine W_y (s' := LS.mk 55 [(2, aI .u8 112)] []) mixed [qn0] ⟨[2], [], [], [], [], [], []⟩ aN (by kernel_rfl) ?_
      refine W_ret ?_
      exact kr [] _ _ (by kernel_rfl) (Option.some.inj h)
    · have hx1004 := hb1003
      have h := if_f h hx1004
      refine W_seq ?_
      refine W_y (s' := LS.mk 55 [(1, .ptr 1 0), (42, aB (decide (a0.Kind = 3)))] [(1, some (.box 32 [aI .u8 a0.Kind, aI .i64 a0.Line, aI .i64 a0.Col, aI .i64 a0.Size, aI .i64 a0.Num, aS a0.Text]))]) mixed [qn0, qn0, qn0, qn0] ⟨[1, 42], [], [1], [], [], [], []⟩ aN (by kernel_rfl) ?_
      refine W_cond (decide (a0.Kind = 3)) (by kernel_rfl) (fun hb1005 => ?_) (fun hb1005 => ?_)
      · have hx1006 := hb1005
        have h := if_t h hx1006
        refine W_seq ?_
        refine W_y (s' := LS.mk 55 [(2, aI .u8 102)] []) mixed [qn0] ⟨[2], [], [], [], [], [], []⟩ aN (by kernel_rfl) ?_
        refine W_ret ?_
        exact kr [] _ _ (by kernel_rfl) (Option.some.inj h)
      · have hx1006 := hb1005
        have h := if_f h hx1006
        refine W_seq ?_
        refine (Bool.eq_false_or_eq_true (decide (a0.Kind = 2))).elim (fun hb1007 => ?_) (fun hb1007 => ?_)
        · have hx1008 := hb1007
          have h := if_t h hx1008
          refine W_y (s' := LS.mk 55 [(46, aB true)] []) mixed [qn0, qn0, qn0, qn0, qt0, qt0, qt0, qn (.dec true), qn0] ⟨[46], [], [], [], [], [], []⟩ (aC hx1008 (aC hx1008 (aC hx1008 (aC hx1008 aN)))) (by kernel_rfl) ?_
          refine W_cond true (by kernel_rfl) (fun _ => ?_) (fun hb => nomatch ((rfl : true = true).symm.trans hb))
          refine W_seq ?_
          refine W_y (s' := LS.mk 55 [(2, aI .u8 100)] []) mixed [qn0] ⟨[2], [], [], [], [], [], []⟩ aN (by kernel_rfl) ?_
          refine W_ret ?_
          exact kr [] _ _ (by kernel_rfl) (Option.some.inj h)
        · have hx1008 := hb1007
          have h := if_f h hx1008
          refine W_y (s' := LS.mk 55 [(46, aB (decide (a0.Kind = 4)))] []) mixed [qn0, qn0, qn0, qn0, qf0, qf0, qf0, qn (.dec false), qn0] ⟨[46], [], [], [], [], [], []⟩ (aC hx1008 (aC hx1008 (aC hx1008 (aC hx1008 aN)))) (by kernel_rfl) ?_
          refine W_cond (decide (a0.Kind = 4)) (by kernel_rfl) (fun hb1009 => ?_) (fun hb1009 => ?_)
          · have hx1010 := hb1009
            have h := if_t h hx1010
            refine W_seq ?_
            refine W_y (s' := LS.mk 55 [(2, aI .u8 100)] []) mixed [qn0] ⟨[2], [], [], [], [], [], []⟩ aN (by kernel_rfl) ?_
            refine W_ret ?_
            exact kr [] _ _ (by kernel_rfl) (Option.some.inj h)
          · have hx1010 := hb1009
            have h := if_f h hx1010
            refine W_skip ?_
            exact k_n  _ h (convX_fits (v := ⟨[], [], [], [], [], [], []⟩) (s' := LS.mk 55 [] []) (by kernel_rfl))
set_option maxRecDepth 100000 in
theorem hindcastref05_sort_j3_ok  (r_ : Int) (Q' : Exit → St → Prop) (kr : ∀ (ns : List (Nat × Nat × Nat)) (s : LS) (x : Int), retX Try.prog ns [.tmp 2] s = some (aI .u8 x) → x = r_ → Q' .ret s.st)  (h : hindcastref05_sort_j3  = some r_) : W Try.prog (subC (bodyC Try.prog 48) [1, 1]) (LS.mk 55 [] []).st Q' := by
  unfold hindcastref05_sort_j3 at h
  refine W_seq ?_
  refine W_y (s' := LS.mk 55 [(2, aI .u8 45)] []) mixed [qn0] ⟨[2], [], [], [], [], [], []⟩ aN (by kernel_rfl) ?_
  refine W_ret ?_
  exact kr [] _ _ (by kernel_rfl) (Option.some.inj h)
set_option maxRecDepth 100000 in
theorem hindcastref05_sort_j1_ok (a0 : GApiNode) (r_ : Int) (Q' : Exit → St → Prop) (kr : ∀ (ns : List (Nat × Nat × Nat)) (s : LS) (x : Int), retX Try.prog ns [.tmp 2] s = some (aI .u8 x) → x = r_ → Q' .ret s.st) (k_n : ∀  (s' : LS), hindcastref05_sort_j3  = some r_ → Fits s'.st (LS.mk 55 [] []).st → Q' .normal s'.st) (h : hindcastref05_sort_j1 a0 = some r_) : W Try.prog (subC (bodyC Try.prog 48) [1, 0, 0, 1, 1, 1, 1, 1, 1]) (LS.mk 55 [(1, .ptr 1 0)] [(1, some (.box 32 [aI .u8 a0.Kind, aI .i64 a0.Line, aI .i64 a0.Col, aI .i64 a0.Size, aI .i64 a0.Num, aS a0.Text]))]).st Q' := by
  unfold hindcastref05_sort_j1 at h
  refine W_seq ?_
  refine (Bool.eq_false_or_eq_true (decide (a0.Kind ≥ 7))).elim (fun hb2001 => ?_) (fun hb2001 => ?_)
  · have hx2002 := hb2001
    have h := if_t h hx2002
    refine W_y (s' := LS.mk 55 [(1, .ptr 1 0), (25, aB (decide (a0.Kind ≤ 13)))] [(1, some (.box 32 [aI .u8 a0.Kind, aI .i64 a0.Line, aI .i64 a0.Col, aI .i64 a0.Size, aI .i64 a0.Num, aS a0.Text]))]) mixed [qn0, qn0, qn0, qn0, qt0, qt0, qt0, qn (.dec true), qn0] ⟨[1, 25], [], [1], [], [], [], []⟩ (aC hx2002 (aC hx2002 (aC hx2002 (aC hx2002 aN)))) (by kernel_rfl) ?_
    refine W_cond (decide (a0.Kind ≤ 13)) (by kernel_rfl) (fun hb2003 => ?_) (fun hb2003 => ?_)
    · have hx2004 := hb2003
      have h := if_t h hx2004
      refine W_seq ?_
      refine W_y (s' := LS.mk 55 [(2, aI .u8 115)] []) mixed [qn0] ⟨[2], [], [], [], [], [], []⟩ aN (by kernel_rfl) ?_
      refine W_ret ?_
      exact kr [] _ _ (by kernel_rfl) (Option.some.inj h)
    · have hx2004 := hb2003
      have h := if_f h hx2004
      exact W_conv (s' := LS.mk 55 [(1, .ptr 1 0)] [(1, some (.box 32 [aI .u8 a0.Kind, aI .i64 a0.Line, aI .i64 a0.Col, aI .i64 a0.Size, aI .i64 a0.Num, aS a0.Text]))]) ⟨[1], [], [1], [], [], [], []⟩ (by kernel_rfl) (hindcastref05_sort_j0_ok a0 r_ _ kr (fun  s' h hf => k_n  s' h hf) h)
  · have hx2002 := hb2001
    have h := if_f h hx2002
    refine W_y (s' := LS.mk 55 [(1, .ptr 1 0), (25, aB false)] [(1, some (.box 32 [aI .u8 a0.Kind, aI .i64 a0.Line, aI .i64 a0.Col, aI .i64 a0.Size, aI .i64 a0.Num, aS a0.Text]))]) mixed [qn0, qn0, qn0, qn0, qf0, qf0, qf0, qn (.dec false), qn0] ⟨[1, 25], [], [1], [], [], [], []⟩ (aC hx2002 (aC hx2002 (aC hx2002 (aC hx2002 aN)))) (by kernel_rfl) ?_
    refine W_cond false (by kernel_rfl) (fun hb => nomatch ((rfl : false = false).symm.trans hb)) (fun _ => ?_)
    exact W_conv (s' := LS.mk 55 [(1, .ptr 1 0)] [(1, some (.box 32 [aI .u8 a0.Kind, aI .i64 a0.Line, aI .i64 a0.Col, aI .i64 a0.Size, aI .i64 a0.Num, aS a0.Text]))]) ⟨[1], [], [1], [], [], [], []⟩ (by kernel_rfl) (hindcastref05_sort_j0_ok a0 r_ _ kr (fun  s' h hf => k_n  s' h hf) h)
set_option maxRecDepth 100000 in
theorem hindcastref05_sort_j2_ok (a0 : GApiNode) (r_ : Int) (Q' : Exit → St → Prop) (kr : ∀ (ns : List (Nat × Nat × Nat)) (s : LS) (x : Int), retX Try.prog ns [.tmp 2] s = some (aI .u8 x) → x = r_ → Q' .ret s.st) (k_n : ∀  (s' : LS), hindcastref05_sort_j3  = some r_ → Fits s'.st (LS.mk 55 [] []).st → Q' .normal s'.st) (h : hindcastref05_sort_j2 a0 = some r_) : W Try.prog (subC (bodyC Try.prog 48) [1, 0, 0, 1, 1, 1, 1]) (LS.mk 55 [(1, .ptr 1 0)] [(1, some (.box 32 [aI .u8 a0.Kind, aI .i64 a0.Line, aI .i64 a0.Col, aI .i64 a0.Size, aI .i64 a0.Num, aS a0.Text]))]).st Q' := by
  unfold hindcastref05_sort_j2 at h
  refine W_seq ?_
  refine (Bool.eq_false_or_eq_true (decide (a0.Kind ≥ 21))).elim (fun hb3001 => ?_) (fun hb3001 => ?_)
  · have hx3002 := hb3001
    have h := if_t h hx3002
    refine W_y (s' := LS.mk 55 [(1, .ptr 1 0), (16, aB (decide (a0.Kind ≤ 32)))] [(1, some (.box 32 [aI .u8 a0.Kind, aI .i64 a0.Line, aI .i64 a0.Col, aI .i64 a0.Size, aI .i64 a0.Num, aS a0.Text]))]) mixed [qn0, qn0, qn0, qn0, qt0, qt0, qt0, qn (.dec true), qn0] ⟨[1, 16], [], [1], [], [], [], []⟩ (aC hx3002 (aC hx3002 (aC hx3002 (aC hx3002 aN)))) (by kernel_rfl) ?_
    refine W_cond (decide (a0.Kind ≤ 32)) (by kernel_rfl) (fun hb3003 => ?_) (fun hb3003 => ?_)
    · have hx3004 := hb3003
      have h := if_t h hx3004
      refine W_seq ?_
      refine W_y (s' := LS.mk 55 [(2, aI .u8 101)] []) mixed [qn0] ⟨[2], [], [], [], [], [], []⟩ aN (by kernel_rfl) ?_
      refine W_ret ?_
      exact kr [] _ _ (by kernel_rfl) (Option.some.inj h)
    · have hx3004 := hb3003
      have h := if_f h hx3004
      exact W_conv (s' := LS.mk 55 [(1, .ptr 1 0)] [(1, some (.box 32 [aI .u8 a0.Kind, aI .i64 a0.Line, aI .i64 a0.Col, aI .i64 a0.Size, aI .i64 a0.Num, aS a0.Text]))]) ⟨[1], [], [1], [], [], [], []⟩ (by kernel_rfl) (hindcastref05_sort_j1_ok a0 r_ _ kr (fun  s' h hf => k_n  s' h hf) h)
  · have hx3002 := hb3001
    have h := if_f h hx3002
    refine W_y (s' := LS.mk 55 [(1, .ptr 1 0), (16, aB false)] [(1, some (.box 32 [aI .u8 a0.Kind, aI .i64 a0.Line, aI .i64 a0.Col, aI .i64 a0.Size, aI .i64 a0.Num, aS a0.Text]))]) mixed [qn0, qn0, qn0, qn0, qf0, qf0, qf0, qn (.dec false), qn0] ⟨[1, 16], [], [1], [], [], [], []⟩ (aC hx3002 (aC hx3002 (aC hx3002 (aC hx3002 aN)))) (by kernel_rfl) ?_
    refine W_cond false (by kernel_rfl) (fun hb => nomatch ((rfl : false = false).symm.trans hb)) (fun _ => ?_)
    exact W_conv (s' := LS.mk 55 [(1, .ptr 1 0)] [(1, some (.box 32 [aI .u8 a0.Kind, aI .i64 a0.Line, aI .i64 a0.Col, aI .i64 a0.Size, aI .i64 a0.Num, aS a0.Text]))]) ⟨[1], [], [1], [], [], [], []⟩ (by kernel_rfl) (hindcastref05_sort_j1_ok a0 r_ _ kr (fun  s' h hf => k_n  s' h hf) h)
noncomputable def hindcastref05_sort (a0 : GApiNode) : Option Int :=
  (if a0.Kind = 14 then (some 48) else (if a0.Kind ≥ 15 then (if a0.Kind ≤ 20 then (some 116) else hindcastref05_sort_j2 a0) else hindcastref05_sort_j2 a0))
set_option maxRecDepth 100000 in
theorem hindcastref05_sort_ok {a0 : GApiNode} {r_ : Int} (h : hindcastref05_sort a0 = some r_) : R_hindcastref05_sort a0 r_ := by
  unfold hindcastref05_sort at h
  refine fn_pureX (fn := Try.f48) (by kernel_rfl) (c := subC (bodyC Try.prog 48) []) (by kernel_rfl) (by kernel_rfl) (Nat.le_of_ble_eq_true (by kernel_rfl)) ?_
  generalize hQ' : retQ Try.prog Try.f48 (aI .u8 r_) = Q'
  have kr : ∀ (ns : List (Nat × Nat × Nat)) (s : LS) (x : Int), retX Try.prog ns [.tmp 2] s = some (aI .u8 x) → x = r_ → Q' .ret s.st := by subst hQ'; intro ns s x hx hq; subst hq; exact ret_ok (fn := Try.f48) ns hx
  change W Try.prog _ (LS.mk 55 [(0, e_GApiNode a0)] []).st Q'
  refine W_seq ?_
  refine W_y (s' := LS.mk 55 [(1, .ptr 1 0)] [(1, some (.box 32 [aI .u8 a0.Kind, aI .i64 a0.Line, aI .i64 a0.Col, aI .i64 a0.Size, aI .i64 a0.Num, aS a0.Text]))]) mixed [qn0, qn0] ⟨[1], [], [1], [], [], [], []⟩ aN (by kernel_rfl) ?_
  refine W_seq ?_
  refine W_block ?_
  refine W_seq ?_
  refine W_y (s' := LS.mk 55 [(1, .ptr 1 0), (3, aB (decide (a0.Kind = 14)))] [(1, some (.box 32 [aI .u8 a0.Kind, aI .i64 a0.Line, aI .i64 a0.Col, aI .i64 a0.Size, aI .i64 a0.Num, aS a0.Text]))]) mixed [qn0, qn0, qn0, qn0] ⟨[1, 3], [], [1], [], [], [], []⟩ aN (by kernel_rfl) ?_
  refine W_cond (decide (a0.Kind = 14)) (by kernel_rfl) (fun hb1 => ?_) (fun hb1 => ?_)
  · have hx2 := hb1
    have h := if_t h hx2
    refine W_seq ?_
    refine W_y (s' := LS.mk 55 [(2, aI .u8 48)] []) mixed [qn0] ⟨[2], [], [], [], [], [], []⟩ aN (by kernel_rfl) ?_
    refine W_ret ?_
    exact kr [] _ _ (by kernel_rfl) (Option.some.inj h)
  · have hx2 := hb1
    have h := if_f h hx2
    refine W_seq ?_
    refine (Bool.eq_false_or_eq_true (decide (a0.Kind ≥ 15))).elim (fun hb3 => ?_) (fun hb3 => ?_)
    · have hx4 := hb3
      have h := if_t h hx4
      refine W_y (s' := LS.mk 55 [(1, .ptr 1 0), (7, aB (decide (a0.Kind ≤ 20)))] [(1, some (.box 32 [aI .u8 a0.Kind, aI .i64 a0.Line, aI .i64 a0.Col, aI .i64 a0.Size, aI .i64 a0.Num, aS a0.Text]))]) mixed [qn0, qn0, qn0, qn0, qt0, qt0, qt0, qn (.dec true), qn0] ⟨[1, 7], [], [1], [], [], [], []⟩ (aC hx4 (aC hx4 (aC hx4 (aC hx4 aN)))) (by kernel_rfl) ?_
      refine W_cond (decide (a0.Kind ≤ 20)) (by kernel_rfl) (fun hb5 => ?_) (fun hb5 => ?_)
      · have hx6 := hb5
        have h := if_t h hx6
        refine W_seq ?_
        refine W_y (s' := LS.mk 55 [(2, aI .u8 116)] []) mixed [qn0] ⟨[2], [], [], [], [], [], []⟩ aN (by kernel_rfl) ?_
        refine W_ret ?_
        exact kr [] _ _ (by kernel_rfl) (Option.some.inj h)
      · have hx6 := hb5
        have h := if_f h hx6
        exact W_conv (s' := LS.mk 55 [(1, .ptr 1 0)] [(1, some (.box 32 [aI .u8 a0.Kind, aI .i64 a0.Line, aI .i64 a0.Col, aI .i64 a0.Size, aI .i64 a0.Num, aS a0.Text]))]) ⟨[1], [], [1], [], [], [], []⟩ (by kernel_rfl) (hindcastref05_sort_j2_ok a0 r_ _ kr (fun  s' h hf => W_pre hf (hindcastref05_sort_j3_ok r_ _ kr h)) h)
    · have hx4 := hb3
      have h := if_f h hx4
      refine W_y (s' := LS.mk 55 [(1, .ptr 1 0), (7, aB false)] [(1, some (.box 32 [aI .u8 a0.Kind, aI .i64 a0.Line, aI .i64 a0.Col, aI .i64 a0.Size, aI .i64 a0.Num, aS a0.Text]))]) mixed [qn0, qn0, qn0, qn0, qf0, qf0, qf0, qn (.dec false), qn0] ⟨[1, 7], [], [1], [], [], [], []⟩ (aC hx4 (aC hx4 (aC hx4 (aC hx4 aN)))) (by kernel_rfl) ?_
      refine W_cond false (by kernel_rfl) (fun hb => nomatch ((rfl : false = false).symm.trans hb)) (fun _ => ?_)
      exact W_conv (s' := LS.mk 55 [(1, .ptr 1 0)] [(1, some (.box 32 [aI .u8 a0.Kind, aI .i64 a0.Line, aI .i64 a0.Col, aI .i64 a0.Size, aI .i64 a0.Num, aS a0.Text]))]) ⟨[1], [], [1], [], [], [], []⟩ (by kernel_rfl) (hindcastref05_sort_j2_ok a0 r_ _ kr (fun  s' h hf => W_pre hf (hindcastref05_sort_j3_ok r_ _ kr h)) h)
def R_hindcastref05_only (a0 : (List UInt8)) (a1 : Int) (r : Bool) : Prop := FnP Try.prog 49 [aS a0, aI .u8 a1] (aB r)
inductive hindcastref05_only_C where
  | l0 (a0 : (List UInt8)) (a1 : Int) (v0_5_0 : Int)
  | j1 
abbrev hindcastref05_only_C_T : hindcastref05_only_C → Type := fun _ => Bool
noncomputable def hindcastref05_only_l0_b (g : (i : hindcastref05_only_C) → Option (hindcastref05_only_C_T i)) (a0 : (List UInt8)) (a1 : Int) (v0_5_0 : Int) : Option Bool :=
  (if v0_5_0 < (a0.length : Int) then ((getI a0 v0_5_0).bind fun (x3_2 : UInt8) => (if (x3_2.toNat : Int) = a1 then g (.l0 a0 a1 (w64 (v0_5_0 + 1))) else (some false))) else g (.j1))
noncomputable def hindcastref05_only_j1_b (g : (i : hindcastref05_only_C) → Option (hindcastref05_only_C_T i))  : Option Bool :=
  (some true)
noncomputable def hindcastref05_only_B (g : (i : hindcastref05_only_C) → Option (hindcastref05_only_C_T i)) : (i : hindcastref05_only_C) → Option (hindcastref05_only_C_T i)
  | .l0 a0 a1 v0_5_0 => hindcastref05_only_l0_b g a0 a1 v0_5_0
  | .j1  => hindcastref05_only_j1_b g 
theorem hindcastref05_only_B_fin (i : hindcastref05_only_C) : Fin1 (fun g => hindcastref05_only_B g i) := by
  cases i with
  | l0 a0 a1 v0_5_0 => show Fin1 (fun g => hindcastref05_only_l0_b g a0 a1 v0_5_0); unfold hindcastref05_only_l0_b; repeat (first | refine fin_bind ?_ (fun _ => ?_) | refine fin_ite ?_ ?_ | exact fin_ask _ | exact fin_const _)
  | j1  => show Fin1 (fun g => hindcastref05_only_j1_b g ); unfold hindcastref05_only_j1_b; repeat (first | refine fin_bind ?_ (fun _ => ?_) | refine fin_ite ?_ ?_ | exact fin_ask _ | exact fin_const _)
noncomputable def hindcastref05_only_l0 (a0 : (List UInt8)) (a1 : Int) (v0_5_0 : Int) : Option Bool := fixD hindcastref05_only_B (.l0 a0 a1 v0_5_0)
noncomputable def hindcastref05_only_j1  : Option Bool := fixD hindcastref05_only_B (.j1 )
theorem hindcastref05_only_l0_eq (a0 : (List UInt8)) (a1 : Int) (v0_5_0 : Int) : hindcastref05_only_l0 a0 a1 v0_5_0 =
  (if v0_5_0 < (a0.length : Int) then ((getI a0 v0_5_0).bind fun (x3_2 : UInt8) => (if (x3_2.toNat : Int) = a1 then hindcastref05_only_l0 a0 a1 (w64 (v0_5_0 + 1)) else (some false))) else hindcastref05_only_j1) := fix_eq hindcastref05_only_B_fin _
theorem hindcastref05_only_j1_eq  : hindcastref05_only_j1  =
  (some true) := fix_eq hindcastref05_only_B_fin _
set_option maxRecDepth 100000 in
theorem hindcastref05_only_l0_ok (n : Nat)  (a0 : (List UInt8)) (a1 : Int) (v0_5_0 : Int) (r_ : Bool) (Q' : Exit → St → Prop) (kr : ∀ (ns : List (Nat × Nat × Nat)) (s : LS) (x : Bool), retX Try.prog ns [.tmp 4] s = some (aB x) → x = r_ → Q' .ret s.st) (k_x_0 : ∀ (q : Nat), q < n → ∀  (s' : LS), recN hindcastref05_only_B q (.j1 ) = some r_ → Fits s'.st (LS.mk 17 [] []).st → Q' (.exit 0) s'.st) (h : recN hindcastref05_only_B n (.l0 a0 a1 v0_5_0) = some r_) : W Try.prog (subC (bodyC Try.prog 49) [1, 0, 1, 0]) (LS.mk 17 [(0, aS a0), (1, aI .u8 a1), (5, aI .i64 v0_5_0)] []).st Q' := by
  refine W_fix (σ := Int) (fun m x_ => m ≤ n ∧ recN hindcastref05_only_B m (.l0 a0 a1 x_) = some r_) (fun x_ => LS.mk 17 [(0, aS a0), (1, aI .u8 a1), (5, aI .i64 x_)] []) (fun x hx => by cases hx.2) (fun _ _ => rfl) ?_ n (v0_5_0) ⟨Nat.le_refl _, h⟩
  clear h
  rintro m v0_5_0 ⟨hlt, h⟩
  replace h : hindcastref05_only_l0_b (recN hindcastref05_only_B m) a0 a1 v0_5_0 = some r_ := h
  unfold hindcastref05_only_l0_b at h
  refine W_seq ?_
  refine W_seq ?_
  refine W_y (s' := LS.mk 17 [(0, aS a0), (1, aI .u8 a1), (5, aI .i64 v0_5_0), (9, aB (decide (v0_5_0 < (a0.length : Int))))] []) mixed [qn0, qn0, qn0, qn0] ⟨[0, 1, 5, 9], [], [], [], [], [], []⟩ aN (by kernel_rfl) ?_
  refine W_cond (decide (v0_5_0 < (a0.length : Int))) (by kernel_rfl) (fun hb1001 => ?_) (fun hb1001 => ?_)
  · have hx1002 := hb1001
    have h := if_t h hx1002
    refine W_skip ?_
    refine W_seq ?_
    refine W_block ?_
    refine W_seq ?_
    obtain ⟨x3_2, hx3_2, h⟩ := bind_ok h
    refine W_y (s' := LS.mk 17 [(0, aS a0), (1, aI .u8 a1), (5, aI .i64 v0_5_0), (16, aB (!(decide ((x3_2.toNat : Int) = a1))))] []) mixed [qn0, qn0, qn (.sx (Int.toNat v0_5_0) x3_2), qn0, qn0] ⟨[0, 1, 5, 16], [], [], [], [], [], []⟩ (aC (sx_ob hx3_2) aN) (by kernel_rfl) ?_
    refine W_cond (!(decide ((x3_2.toNat : Int) = a1))) (by kernel_rfl) (fun hb1003 => ?_) (fun hb1003 => ?_)
    · have hx1004 : (decide ((x3_2.toNat : Int) = a1)) = false := (bnot_t hb1003)
      have h := if_f h hx1004
      refine W_seq ?_
      refine W_y (s' := LS.mk 17 [(4, aB false)] []) mixed [qn0] ⟨[4], [], [], [], [], [], []⟩ aN (by kernel_rfl) ?_
      refine W_ret ?_
      exact kr [] _ _ (by kernel_rfl) (Option.some.inj h)
    · have hx1004 : (decide ((x3_2.toNat : Int) = a1)) = true := (bnot_f hb1003)
      have h := if_t h hx1004
      refine W_skip ?_
      refine W_y (s' := LS.mk 17 [(0, aS a0), (1, aI .u8 a1), (5, aI .i64 (w64 (v0_5_0 + 1)))] []) mixed [qn0, qn0, qn0] ⟨[0, 1, 5], [], [], [], [], [], []⟩ aN (by kernel_rfl) ?_
      exact ⟨m, ((w64 (v0_5_0 + 1))), Nat.le_refl _, ⟨Nat.le_of_lt hlt, h⟩, convX_fits (v := ⟨[0, 1, 5], [], [], [], [], [], []⟩) (s' := LS.mk 17 [(0, aS a0), (1, aI .u8 a1), (5, aI .i64 (w64 (v0_5_0 + 1)))] []) (by kernel_rfl)⟩
  · have hx1002 := hb1001
    have h := if_f h hx1002
    refine W_exit ?_
    exact k_x_0 m hlt  _ h (convX_fits (v := ⟨[], [], [], [], [], [], []⟩) (s' := LS.mk 17 [] []) (by kernel_rfl))
set_option maxRecDepth 100000 in
theorem hindcastref05_only_j1_ok (n : Nat)   (r_ : Bool) (Q' : Exit → St → Prop) (kr : ∀ (ns : List (Nat × Nat × Nat)) (s : LS) (x : Bool), retX Try.prog ns [.tmp 4] s = some (aB x) → x = r_ → Q' .ret s.st)  (h : recN hindcastref05_only_B n (.j1 ) = some r_) : W Try.prog (subC (bodyC Try.prog 49) [1, 1]) (LS.mk 17 [] []).st Q' := by
  cases n with
  | zero => cases h
  | succ m =>
  have hlt : m < m + 1 := Nat.lt_succ_self m
  replace h : hindcastref05_only_j1_b (recN hindcastref05_only_B m)  = some r_ := h
  unfold hindcastref05_only_j1_b at h
  refine W_seq ?_
  refine W_y (s' := LS.mk 17 [(4, aB true)] []) mixed [qn0] ⟨[4], [], [], [], [], [], []⟩ aN (by kernel_rfl) ?_
  refine W_ret ?_
  exact kr [] _ _ (by kernel_rfl) (Option.some.inj h)
noncomputable def hindcastref05_only (a0 : (List UInt8)) (a1 : Int) : Option Bool :=
  hindcastref05_only_l0 a0 a1 0
set_option maxRecDepth 100000 in
theorem hindcastref05_only_ok {a0 : (List UInt8)} {a1 : Int} {r_ : Bool} (h : hindcastref05_only a0 a1 = some r_) : R_hindcastref05_only a0 a1 r_ := by
  unfold hindcastref05_only at h
  refine fn_pureX (fn := Try.f49) (by kernel_rfl) (c := subC (bodyC Try.prog 49) []) (by kernel_rfl) (by kernel_rfl) (Nat.le_of_ble_eq_true (by kernel_rfl)) ?_
  generalize hQ' : retQ Try.prog Try.f49 (aB r_) = Q'
  have kr : ∀ (ns : List (Nat × Nat × Nat)) (s : LS) (x : Bool), retX Try.prog ns [.tmp 4] s = some (aB x) → x = r_ → Q' .ret s.st := by subst hQ'; intro ns s x hx hq; subst hq; exact ret_ok (fn := Try.f49) ns hx
  change W Try.prog _ (LS.mk 17 [(0, aS a0), (1, aI .u8 a1)] []).st Q'
  refine W_seq ?_
  refine W_y (s' := LS.mk 17 [(0, aS a0), (1, aI .u8 a1)] []) mixed [qn0] ⟨[0, 1], [], [], [], [], [], []⟩ aN (by kernel_rfl) ?_
  refine W_seq ?_
  refine W_seq ?_
  refine W_y (s' := LS.mk 17 [(0, aS a0), (1, aI .u8 a1), (5, aI .i64 0)] []) mixed [qn0] ⟨[0, 1, 5], [], [], [], [], [], []⟩ aN (by kernel_rfl) ?_
  refine W_block ?_
  obtain ⟨n, h⟩ := fix_rec h
  exact W_conv (s' := LS.mk 17 [(0, aS a0), (1, aI .u8 a1), (5, aI .i64 0)] []) ⟨[0, 1, 5], [], [], [], [], [], []⟩ (by kernel_rfl) (hindcastref05_only_l0_ok n a0 a1 0 r_ _ kr (fun q1 hq1  s' h hf => W_pre hf (hindcastref05_only_j1_ok q1 r_ _ kr h)) h)
def R_hindcastref05_family (a0 : (List GApiNode)) (a1 : Int) (r : Bool) : Prop := FnP Try.prog 34 [.t (.sl 6 (a0.map c_GApiNode)), aI .i64 a1] (aB r)
inductive hindcastref05_family_C where
  | l0 (a0 : (List GApiNode)) (a1 : Int) (r1_2 : (List Int)) (v0_17_0 : Int) (w0_1006 : (List Int))
  | j1 (a0 : (List GApiNode)) (a1 : Int) (r1_2 : (List Int)) (w0_1006 : (List Int))
  | j2 (a0 : (List GApiNode)) (a1 : Int) (w0_1006 : (List Int)) (m2_9_0 : Int) (m2_9_1 : Int) (m2_9_2 : Int) (m2_9_3 : Int) (m2_9_4 : Int) (m2_9_5 : (List UInt8))
abbrev hindcastref05_family_C_T : hindcastref05_family_C → Type := fun _ => Bool
noncomputable def hindcastref05_family_l0_b (g : (i : hindcastref05_family_C) → Option (hindcastref05_family_C_T i)) (a0 : (List GApiNode)) (a1 : Int) (r1_2 : (List Int)) (v0_17_0 : Int) (w0_1006 : (List Int)) : Option Bool :=
  (if v0_17_0 < (r1_2.length : Int) then ((getI r1_2 v0_17_0).bind fun (x6_4 : Int) => ((getI a0 x6_4).bind fun (x6_6 : GApiNode) => ((hindcastref05_sort x6_6).bind fun (r6_8 : Int) => (if AppOb 1 (w0_1006.length + ([r6_8] : List Int).length) then g (.l0 a0 a1 r1_2 (w64 (v0_17_0 + 1)) (w0_1006 ++ ([r6_8] : List Int))) else none)))) else g (.j1 a0 a1 r1_2 w0_1006))
noncomputable def hindcastref05_family_j1_b (g : (i : hindcastref05_family_C) → Option (hindcastref05_family_C_T i)) (a0 : (List GApiNode)) (a1 : Int) (r1_2 : (List Int)) (w0_1006 : (List Int)) : Option Bool :=
  (if BytesOb w0_1006 then (if (r1_2.length : Int) > 0 then ((getI r1_2 0).bind fun (x11_2 : Int) => ((getI a0 x11_2).bind fun (x11_4 : GApiNode) => g (.j2 a0 a1 w0_1006 x11_4.Kind x11_4.Line x11_4.Col x11_4.Size x11_4.Num x11_4.Text))) else g (.j2 a0 a1 w0_1006 0 0 0 0 0 ([] : List UInt8))) else none)
noncomputable def hindcastref05_family_j2_b (g : (i : hindcastref05_family_C) → Option (hindcastref05_family_C_T i)) (a0 : (List GApiNode)) (a1 : Int) (w0_1006 : (List Int)) (m2_9_0 : Int) (m2_9_1 : Int) (m2_9_2 : Int) (m2_9_3 : Int) (m2_9_4 : Int) (m2_9_5 : (List UInt8)) : Option Bool :=
  ((getI a0 a1).bind fun (x12_2 : GApiNode) => (if x12_2.Kind = 1 then (if a1 = 0 then ((hindcastref05_only (bytesS w0_1006) 100).bind fun (r14_4 : Bool) => (some r14_4)) else (some false)) else (if x12_2.Kind = 2 then ((hindcastref05_only (bytesS w0_1006) 102).bind fun (r16_1 : Bool) => (some r16_1)) else (if x12_2.Kind = 3 then (some (decide ((bytesS w0_1006) = ([116] : List UInt8)))) else (if x12_2.Kind = 5 then (some (decide ((bytesS w0_1006) = ([116] : List UInt8)))) else (if x12_2.Kind = 20 then (some (decide ((bytesS w0_1006) = ([116] : List UInt8)))) else (if x12_2.Kind = 4 then (if ((bytesS w0_1006).length : Int) ≥ 2 then (if (w64 (((bytesS w0_1006).length : Int) - 2)) = x12_2.Num then (if CutR 0 (w64 (((bytesS w0_1006).length : Int) - 2)) ((bytesS w0_1006).length : Int) then ((hindcastref05_only (cutL (bytesS w0_1006) 0 (w64 (((bytesS w0_1006).length : Int) - 2))) 112).bind fun (r23_17 : Bool) => (if r23_17 = true then ((getI (bytesS w0_1006) (w64 (((bytesS w0_1006).length : Int) - 2))).bind fun (x23_23 : UInt8) => (if (x23_23.toNat : Int) = 116 then ((getI (bytesS w0_1006) (w64 (((bytesS w0_1006).length : Int) - 1))).bind fun (x23_37 : UInt8) => (some (decide ((x23_37.toNat : Int) = 98)))) else (if (x23_23.toNat : Int) = 48 then ((getI (bytesS w0_1006) (w64 (((bytesS w0_1006).length : Int) - 1))).bind fun (x23_37 : UInt8) => (some (decide ((x23_37.toNat : Int) = 98)))) else (some false)))) else (some false))) else none) else (some false)) else (some false)) else (if x12_2.Kind = 6 then ((hindcastref05_only (bytesS w0_1006) 115).bind fun (r25_1 : Bool) => (some r25_1)) else (if x12_2.Kind = 7 then (some (decide ((bytesS w0_1006) = ([116, 101] : List UInt8)))) else (if x12_2.Kind = 8 then (if (bytesS w0_1006) = ([101, 101] : List UInt8) then (if m2_9_0 = 26 then (some true) else (if m2_9_0 = 28 then (some true) else (some (decide (m2_9_0 = 29))))) else (some false)) else (if x12_2.Kind = 9 then (if (bytesS w0_1006) = ([101, 98] : List UInt8) then (some true) else (some (decide ((bytesS w0_1006) = ([101, 98, 98] : List UInt8))))) else (if x12_2.Kind = 10 then (some (decide ((bytesS w0_1006) = ([101, 98] : List UInt8)))) else (if x12_2.Kind = 11 then (if (bytesS w0_1006) = ([] : List UInt8) then (some true) else (some (decide ((bytesS w0_1006) = ([101] : List UInt8))))) else (if x12_2.Kind = 12 then (some (decide ((bytesS w0_1006) = ([101] : List UInt8)))) else (if x12_2.Kind = 29 then (some (decide ((bytesS w0_1006) = ([101] : List UInt8)))) else (if x12_2.Kind = 30 then (some (decide ((bytesS w0_1006) = ([101] : List UInt8)))) else (if x12_2.Kind = 13 then (if (bytesS w0_1006) = ([101] : List UInt8) then (some (decide (m2_9_0 = 27))) else (some false)) else (if x12_2.Kind = 27 then ((hindcastref05_only (bytesS w0_1006) 101).bind fun (r43_1 : Bool) => (some r43_1)) else (if x12_2.Kind = 28 then (some (decide ((bytesS w0_1006) = ([101, 101] : List UInt8)))) else (if x12_2.Kind = 31 then (some (decide ((bytesS w0_1006) = ([101, 101] : List UInt8)))) else (if x12_2.Kind = 32 then (if (bytesS w0_1006) = ([116] : List UInt8) then (if m2_9_0 = 19 then (some true) else (if (bytesS w0_1006) = ([116, 101] : List UInt8) then (some (decide (m2_9_0 = 20))) else (some false))) else (if (bytesS w0_1006) = ([116, 101] : List UInt8) then (some (decide (m2_9_0 = 20))) else (some false))) else (if (bytesS w0_1006) = ([] : List UInt8) then (if x12_2.Kind ≥ 14 then (some (decide (x12_2.Kind ≤ 26))) else (some false)) else (some false)))))))))))))))))))))))
noncomputable def hindcastref05_family_B (g : (i : hindcastref05_family_C) → Option (hindcastref05_family_C_T i)) : (i : hindcastref05_family_C) → Option (hindcastref05_family_C_T i)
  | .l0 a0 a1 r1_2 v0_17_0 w0_1006 => hindcastref05_family_l0_b g a0 a1 r1_2 v0_17_0 w0_1006
  | .j1 a0 a1 r1_2 w0_1006 => hindcastref05_family_j1_b g a0 a1 r1_2 w0_1006
  | .j2 a0 a1 w0_1006 m2_9_0 m2_9_1 m2_9_2 m2_9_3 m2_9_4 m2_9_5 => hindcastref05_family_j2_b g a0 a1 w0_1006 m2_9_0 m2_9_1 m2_9_2 m2_9_3 m2_9_4 m2_9_5
theorem hindcastref05_family_B_fin (i : hindcastref05_family_C) : Fin1 (fun g => hindcastref05_family_B g i) := by
  cases i with
  | l0 a0 a1 r1_2 v0_17_0 w0_1006 => show Fin1 (fun g => hindcastref05_family_l0_b g a0 a1 r1_2 v0_17_0 w0_1006); unfold hindcastref05_family_l0_b; repeat (first | refine fin_bind ?_ (fun _ => ?_) | refine fin_ite ?_ ?_ | exact fin_ask _ | exact fin_const _)
  | j1 a0 a1 r1_2 w0_1006 => show Fin1 (fun g => hindcastref05_family_j1_b g a0 a1 r1_2 w0_1006); unfold hindcastref05_family_j1_b; repeat (first | refine fin_bind ?_ (fun _ => ?_) | refine fin_ite ?_ ?_ | exact fin_ask _ | exact fin_const _)
  | j2 a0 a1 w0_1006 m2_9_0 m2_9_1 m2_9_2 m2_9_3 m2_9_4 m2_9_5 => show Fin1 (fun g => hindcastref05_family_j2_b g a0 a1 w0_1006 m2_9_0 m2_9_1 m2_9_2 m2_9_3 m2_9_4 m2_9_5); unfold hindcastref05_family_j2_b; repeat (first | refine fin_bind ?_ (fun _ => ?_) | refine fin_ite ?_ ?_ | exact fin_ask _ | exact fin_const _)
noncomputable def hindcastref05_family_l0 (a0 : (List GApiNode)) (a1 : Int) (r1_2 : (List Int)) (v0_17_0 : Int) (w0_1006 : (List Int)) : Option Bool := fixD hindcastref05_family_B (.l0 a0 a1 r1_2 v0_17_0 w0_1006)
noncomputable def hindcastref05_family_j1 (a0 : (List GApiNode)) (a1 : Int) (r1_2 : (List Int)) (w0_1006 : (List Int)) : Option Bool := fixD hindcastref05_family_B (.j1 a0 a1 r1_2 w0_1006)
noncomputable def hindcastref05_family_j2 (a0 : (List GApiNode)) (a1 : Int) (w0_1006 : (List Int)) (m2_9_0 : Int) (m2_9_1 : Int) (m2_9_2 : Int) (m2_9_3 : Int) (m2_9_4 : Int) (m2_9_5 : (List UInt8)) : Option Bool := fixD hindcastref05_family_B (.j2 a0 a1 w0_1006 m2_9_0 m2_9_1 m2_9_2 m2_9_3 m2_9_4 m2_9_5)
theorem hindcastref05_family_l0_eq (a0 : (List GApiNode)) (a1 : Int) (r1_2 : (List Int)) (v0_17_0 : Int) (w0_1006 : (List Int)) : hindcastref05_family_l0 a0 a1 r1_2 v0_17_0 w0_1006 =
  (if v0_17_0 < (r1_2.length : Int) then ((getI r1_2 v0_17_0).bind fun (x6_4 : Int) => ((getI a0 x6_4).bind fun (x6_6 : GApiNode) => ((hindcastref05_sort x6_6).bind fun (r6_8 : Int) => (if AppOb 1 (w0_1006.length + ([r6_8] : List Int).length) then hindcastref05_family_l0 a0 a1 r1_2 (w64 (v0_17_0 + 1)) (w0_1006 ++ ([r6_8] : List Int)) else none)))) else hindcastref05_family_j1 a0 a1 r1_2 w0_1006) := fix_eq hindcastref05_family_B_fin _
theorem hindcastref05_family_j1_eq (a0 : (List GApiNode)) (a1 : Int) (r1_2 : (List Int)) (w0_1006 : (List Int)) : hindcastref05_family_j1 a0 a1 r1_2 w0_1006 =
  (if BytesOb w0_1006 then (if (r1_2.length : Int) > 0 then ((getI r1_2 0).bind fun (x11_2 : Int) => ((getI a0 x11_2).bind fun (x11_4 : GApiNode) => hindcastref05_family_j2 a0 a1 w0_1006 x11_4.Kind x11_4.Line x11_4.Col x11_4.Size x11_4.Num x11_4.Text)) else hindcastref05_family_j2 a0 a1 w0_1006 0 0 0 0 0 ([] : List UInt8)) else none) := fix_eq hindcastref05_family_B_fin _
theorem hindcastref05_family_j2_eq (a0 : (List GApiNode)) (a1 : Int) (w0_1006 : (List Int)) (m2_9_0 : Int) (m2_9_1 : Int) (m2_9_2 : Int) (m2_9_3 : Int) (m2_9_4 : Int) (m2_9_5 : (List UInt8)) : hindcastref05_family_j2 a0 a1 w0_1006 m2_9_0 m2_9_1 m2_9_2 m2_9_3 m2_9_4 m2_9_5 =
  ((getI a0 a1).bind fun (x12_2 : GApiNode) => (if x12_2.Kind = 1 then (if a1 = 0 then ((hindcastref05_only (bytesS w0_1006) 100).bind fun (r14_4 : Bool) => (some r14_4)) else (some false)) else (if x12_2.Kind = 2 then ((hindcastref05_only (bytesS w0_1006) 102).bind fun (r16_1 : Bool) => (some r16_1)) else (if x12_2.Kind = 3 then (some (decide ((bytesS w0_1006) = ([116] : List UInt8)))) else (if x12_2.Kind = 5 then (some (decide ((bytesS w0_1006) = ([116] : List UInt8)))) else (if x12_2.Kind = 20 then (some (decide ((bytesS w0_1006) = ([116] : List UInt8)))) else (if x12_2.Kind = 4 then (if ((bytesS w0_1006).length : Int) ≥ 2 then (if (w64 (((bytesS w0_1006).length : Int) - 2)) = x12_2.Num then (if CutR 0 (w64 (((bytesS w0_1006).length : Int) - 2)) ((bytesS w0_1006).length : Int) then ((hindcastref05_only (cutL (bytesS w0_1006) 0 (w64 (((bytesS w0_1006).length : Int) - 2))) 112).bind fun (r23_17 : Bool) => (if r23_17 = true then ((getI (bytesS w0_1006) (w64 (((bytesS w0_1006).length : Int) - 2))).bind fun (x23_23 : UInt8) => (if (x23_23.toNat : Int) = 116 then ((getI (bytesS w0_1006) (w64 (((bytesS w0_1006).length : Int) - 1))).bind fun (x23_37 : UInt8) => (some (decide ((x23_37.toNat : Int) = 98)))) else (if (x23_23.toNat : Int) = 48 then ((getI (bytesS w0_1006) (w64 (((bytesS w0_1006).length : Int) - 1))).bind fun (x23_37 : UInt8) => (some (decide ((x23_37.toNat : Int) = 98)))) else (some false)))) else (some false))) else none) else (some false)) else (some false)) else (if x12_2.Kind = 6 then ((hindcastref05_only (bytesS w0_1006) 115).bind fun (r25_1 : Bool) => (some r25_1)) else (if x12_2.Kind = 7 then (some (decide ((bytesS w0_1006) = ([116, 101] : List UInt8)))) else (if x12_2.Kind = 8 then (if (bytesS w0_1006) = ([101, 101] : List UInt8) then (if m2_9_0 = 26 then (some true) else (if m2_9_0 = 28 then (some true) else (some (decide (m2_9_0 = 29))))) else (some false)) else (if x12_2.Kind = 9 then (if (bytesS w0_1006) = ([101, 98] : List UInt8) then (some true) else (some (decide ((bytesS w0_1006) = ([101, 98, 98] : List UInt8))))) else (if x12_2.Kind = 10 then (some (decide ((bytesS w0_1006) = ([101, 98] : List UInt8)))) else (if x12_2.Kind = 11 then (if (bytesS w0_1006) = ([] : List UInt8) then (some true) else (some (decide ((bytesS w0_1006) = ([101] : List UInt8))))) else (if x12_2.Kind = 12 then (some (decide ((bytesS w0_1006) = ([101] : List UInt8)))) else (if x12_2.Kind = 29 then (some (decide ((bytesS w0_1006) = ([101] : List UInt8)))) else (if x12_2.Kind = 30 then (some (decide ((bytesS w0_1006) = ([101] : List UInt8)))) else (if x12_2.Kind = 13 then (if (bytesS w0_1006) = ([101] : List UInt8) then (some (decide (m2_9_0 = 27))) else (some false)) else (if x12_2.Kind = 27 then ((hindcastref05_only (bytesS w0_1006) 101).bind fun (r43_1 : Bool) => (some r43_1)) else (if x12_2.Kind = 28 then (some (decide ((bytesS w0_1006) = ([101, 101] : List UInt8)))) else (if x12_2.Kind = 31 then (some (decide ((bytesS w0_1006) = ([101, 101] : List UInt8)))) else (if x12_2.Kind = 32 then (if (bytesS w0_1006) = ([116] : List UInt8) then (if m2_9_0 = 19 then (some true) else (if (bytesS w0_1006) = ([116, 101] : List UInt8) then (some (decide (m2_9_0 = 20))) else (some false))) else (if (bytesS w0_1006) = ([116, 101] : List UInt8) then (some (decide (m2_9_0 = 20))) else (some false))) else (if (bytesS w0_1006) = ([] : List UInt8) then (if x12_2.Kind ≥ 14 then (some (decide (x12_2.Kind ≤ 26))) else (some false)) else (some false))))))))))))))))))))))) := fix_eq hindcastref05_family_B_fin _
set_option maxRecDepth 100000 in
theorem hindcastref05_family_l0_ok (n : Nat)  (a0 : (List GApiNode)) (a1 : Int) (r1_2 : (List Int)) (v0_17_0 : Int) (w0_1006 : (List Int)) (r_ : Bool) (Q' : Exit → St → Prop) (kr : ∀ (ns : List (Nat × Nat × Nat)) (s : LS) (x : Bool), retX Try.prog ns [.tmp 4] s = some (aB x) → x = r_ → Q' .ret s.st) (k_x_0 : ∀ (q : Nat), q < n → ∀ (w0_1006 : (List Int)) (s' : LS), recN hindcastref05_family_B q (.j1 a0 a1 r1_2 w0_1006) = some r_ → Fits s'.st (LS.mk 218 [(0, .t (.sl 6 (a0.map c_GApiNode))), (1, aI .i64 a1), (5, .ref 1005), (6, .ref 1006)] [(1005, some (.row 3 1 (r1_2.map c_i64))), (1006, some (.row 5 1 (w0_1006.map c_u8)))]).st → Q' (.exit 0) s'.st) (h : recN hindcastref05_family_B n (.l0 a0 a1 r1_2 v0_17_0 w0_1006) = some r_) : W Try.prog (subC (bodyC Try.prog 34) [1, 1, 1, 0, 1, 0]) (LS.mk 218 [(0, .t (.sl 6 (a0.map c_GApiNode))), (1, aI .i64 a1), (5, .ref 1005), (6, .ref 1006), (16, aI .i64 (r1_2.length : Int)), (17, aI .i64 v0_17_0)] [(1005, some (.row 3 1 (r1_2.map c_i64))), (1006, some (.row 5 1 (w0_1006.map c_u8)))]).st Q' := by
  refine W_fix (σ := Int × (List Int)) (fun m x_ => m ≤ n ∧ recN hindcastref05_family_B m (.l0 a0 a1 r1_2 x_.1 x_.2) = some r_) (fun x_ => LS.mk 218 [(0, .t (.sl 6 (a0.map c_GApiNode))), (1, aI .i64 a1), (5, .ref 1005), (6, .ref 1006), (16, aI .i64 (r1_2.length : Int)), (17, aI .i64 x_.1)] [(1005, some (.row 3 1 (r1_2.map c_i64))), (1006, some (.row 5 1 (x_.2.map c_u8)))]) (fun x hx => by cases hx.2) (fun _ _ => rfl) ?_ n (v0_17_0, w0_1006) ⟨Nat.le_refl _, h⟩
  clear h
  rintro m ⟨v0_17_0, w0_1006⟩ ⟨hlt, h⟩
  replace h : hindcastref05_family_l0_b (recN hindcastref05_family_B m) a0 a1 r1_2 v0_17_0 w0_1006 = some r_ := h
  unfold hindcastref05_family_l0_b at h
  refine W_seq ?_
  refine W_y (s' := LS.mk 218 [(0, .t (.sl 6 (a0.map c_GApiNode))), (1, aI .i64 a1), (5, .ref 1005), (6, .ref 1006), (16, aI .i64 (r1_2.length : Int)), (17, aI .i64 v0_17_0), (18, aB (decide (v0_17_0 < (r1_2.length : Int))))] [(1005, some (.row 3 1 (r1_2.map c_i64))), (1006, some (.row 5 1 (w0_1006.map c_u8)))]) mixed [qn0] ⟨[0, 1, 5, 6, 16, 17, 18], [], [], [], [(1005, 1005), (1006, 1006)], [], []⟩ aN (by kernel_rfl) ?_
  refine W_seq ?_
  refine W_cond (decide (v0_17_0 < (r1_2.length : Int))) (by kernel_rfl) (fun hb1001 => ?_) (fun hb1001 => ?_)
  · have hx1002 := hb1001
    have h := if_t h hx1002
    refine W_skip ?_
    refine W_seq ?_
    refine W_block ?_
    refine W_seq ?_
    refine W_y (s' := LS.mk 218 [(0, .t (.sl 6 (a0.map c_GApiNode))), (1, aI .i64 a1), (5, .ref 1005), (6, .ref 1006), (7, aI .i64 v0_17_0), (16, aI .i64 (r1_2.length : Int)), (17, aI .i64 v0_17_0)] [(1005, some (.row 3 1 (r1_2.map c_i64))), (1006, some (.row 5 1 (w0_1006.map c_u8)))]) mixed [qn0, qn0] ⟨[0, 1, 5, 6, 7, 16, 17], [], [], [], [(1005, 1005), (1006, 1006)], [], []⟩ aN (by kernel_rfl) ?_
    obtain ⟨x6_4, hx6_4, h⟩ := bind_ok h
    obtain ⟨x6_6, hx6_6, h⟩ := bind_ok h
    obtain ⟨r6_8, hr6_8, h⟩ := bind_ok h
    have hr6_8 := hindcastref05_sort_ok hr6_8
    obtain ⟨hd1003, h⟩ := ite_ok h
    refine W_y (s' := LS.mk 218 [(0, .t (.sl 6 (a0.map c_GApiNode))), (1, aI .i64 a1), (5, .ref 1005), (6, .ref 1006), (16, aI .i64 (r1_2.length : Int)), (17, aI .i64 v0_17_0)] [(1006, some (.row 5 1 ((w0_1006 ++ ([r6_8] : List Int)).map c_u8))), (1005, some (.row 3 1 (r1_2.map c_i64)))]) mixed [qn0, qn0, qn0, qn0, qn (.ix (Int.toNat v0_17_0) (c_i64 x6_4)), qn (.ix (Int.toNat v0_17_0) (c_i64 x6_4)), qn (.ix (Int.toNat x6_4) (c_GApiNode x6_6)), qn0, qn (.call [] (aI .u8 r6_8)), qn0, qn (.rows ((w0_1006 ++ ([r6_8] : List Int)).map c_u8)), qn0] ⟨[0, 1, 5, 6, 16, 17], [], [], [], [(30, 1006), (1005, 1005)], [], []⟩ (aC (ix_obx c_i64 hx6_4) (aC (el_obx c_i64 hx6_4) (aC (ix_obx c_GApiNode hx6_6) (aC hr6_8 (aC (ap_obx c_u8 hd1003) (aC (app_obx c_u8 w0_1006 ([r6_8] : List Int)) aN)))))) (by kernel_rfl) ?_
    refine W_y (s' := LS.mk 218 [(0, .t (.sl 6 (a0.map c_GApiNode))), (1, aI .i64 a1), (5, .ref 1005), (6, .ref 1006), (16, aI .i64 (r1_2.length : Int)), (17, aI .i64 (w64 (v0_17_0 + 1)))] [(1005, some (.row 3 1 (r1_2.map c_i64))), (1006, some (.row 5 1 ((w0_1006 ++ ([r6_8] : List Int)).map c_u8)))]) mixed [qn0, qn0] ⟨[0, 1, 5, 6, 16, 17], [], [], [], [(1005, 1005), (1006, 1006)], [], []⟩ aN (by kernel_rfl) ?_
    exact ⟨m, ((w64 (v0_17_0 + 1)), (w0_1006 ++ ([r6_8] : List Int))), Nat.le_refl _, ⟨Nat.le_of_lt hlt, h⟩, convX_fits (v := ⟨[0, 1, 5, 6, 16, 17], [], [], [], [(1005, 1005), (1006, 1006)], [], []⟩) (s' := LS.mk 218 [(0, .t (.sl 6 (a0.map c_GApiNode))), (1, aI .i64 a1), (5, .ref 1005), (6, .ref 1006), (16, aI .i64 (r1_2.length : Int)), (17, aI .i64 (w64 (v0_17_0 + 1)))] [(1005, some (.row 3 1 (r1_2.map c_i64))), (1006, some (.row 5 1 ((w0_1006 ++ ([r6_8] : List Int)).map c_u8)))]) (by kernel_rfl)⟩
  · have hx1002 := hb1001
    have h := if_f h hx1002
    refine W_exit ?_
    exact k_x_0 m hlt w0_1006 _ h (convX_fits (v := ⟨[0, 1, 5, 6], [], [], [], [(1005, 1005), (1006, 1006)], [], []⟩) (s' := LS.mk 218 [(0, .t (.sl 6 (a0.map c_GApiNode))), (1, aI .i64 a1), (5, .ref 1005), (6, .ref 1006)] [(1005, some (.row 3 1 (r1_2.map c_i64))), (1006, some (.row 5 1 (w0_1006.map c_u8)))]) (by kernel_rfl))
set_option maxRecDepth 100000 in
theorem hindcastref05_family_j2_ok (n : Nat)  (a0 : (List GApiNode)) (a1 : Int) (w0_1006 : (List Int)) (m2_9_0 : Int) (m2_9_1 : Int) (m2_9_2 : Int) (m2_9_3 : Int) (m2_9_4 : Int) (m2_9_5 : (List UInt8)) (r_ : Bool) (Q' : Exit → St → Prop) (kr : ∀ (ns : List (Nat × Nat × Nat)) (s : LS) (x : Bool), retX Try.prog ns [.tmp 4] s = some (aB x) → x = r_ → Q' .ret s.st)  (h : recN hindcastref05_family_B n (.j2 a0 a1 w0_1006 m2_9_0 m2_9_1 m2_9_2 m2_9_3 m2_9_4 m2_9_5) = some r_) : W Try.prog (subC (bodyC Try.prog 34) [1, 1, 1, 1, 1, 1, 1]) (LS.mk 218 [(0, .t (.sl 6 (a0.map c_GApiNode))), (1, aI .i64 a1), (8, aS (bytesS w0_1006)), (9, .ptr 9 0)] [(9, some (.box 32 [aI .u8 m2_9_0, aI .i64 m2_9_1, aI .i64 m2_9_2, aI .i64 m2_9_3, aI .i64 m2_9_4, aS m2_9_5]))]).st Q' := by
  cases n with
  | zero => cases h
  | succ m =>
  have hlt : m < m + 1 := Nat.lt_succ_self m
  replace h : hindcastref05_family_j2_b (recN hindcastref05_family_B m) a0 a1 w0_1006 m2_9_0 m2_9_1 m2_9_2 m2_9_3 m2_9_4 m2_9_5 = some r_ := h
  unfold hindcastref05_family_j2_b at h
  refine W_seq ?_
  refine W_seq ?_
  obtain ⟨x12_2, hx12_2, h⟩ := bind_ok h
  refine W_y (s' := LS.mk 218 [(0, .t (.sl 6 (a0.map c_GApiNode))), (1, aI .i64 a1), (8, aS (bytesS w0_1006)), (9, .ptr 9 0), (48, aI .u8 x12_2.Kind)] [(9, some (.box 32 [aI .u8 m2_9_0, aI .i64 m2_9_1, aI .i64 m2_9_2, aI .i64 m2_9_3, aI .i64 m2_9_4, aS m2_9_5]))]) mixed [qn0, qn0, qn (.ix (Int.toNat a1) (c_GApiNode x12_2)), qn0, qn0] ⟨[0, 1, 8, 9, 48], [], [9], [], [], [], []⟩ (aC (ix_obx c_GApiNode hx12_2) aN) (by kernel_rfl) ?_
  refine W_block ?_
  refine W_seq ?_
  refine W_y (s' := LS.mk 218 [(0, .t (.sl 6 (a0.map c_GApiNode))), (1, aI .i64 a1), (8, aS (bytesS w0_1006)), (9, .ptr 9 0), (48, aI .u8 x12_2.Kind), (49, aB (decide (x12_2.Kind = 1)))] [(9, some (.box 32 [aI .u8 m2_9_0, aI .i64 m2_9_1, aI .i64 m2_9_2, aI .i64 m2_9_3, aI .i64 m2_9_4, aS m2_9_5]))]) mixed [qn0, qn0] ⟨[0, 1, 8, 9, 48, 49], [], [9], [], [], [], []⟩ aN (by kernel_rfl) ?_
  refine W_cond (decide (x12_2.Kind = 1)) (by kernel_rfl) (fun hb3001 => ?_) (fun hb3001 => ?_)
  · have hx3002 := hb3001
    have h := if_t h hx3002
    refine W_seq ?_
    refine (Bool.eq_false_or_eq_true (decide (a1 = 0))).elim (fun hb3003 => ?_) (fun hb3003 => ?_)
    · have hx3004 := hb3003
      have h := if_t h hx3004
      obtain ⟨r14_4, hr14_4, h⟩ := bind_ok h
      have hr14_4 := hindcastref05_only_ok hr14_4
      refine W_y (s' := LS.mk 218 [(4, aB r14_4)] []) mixed [qn0, qn0, qn0, qt0, qt (.call [] (aB r14_4)), qn (.dec true), qn0] ⟨[4], [], [], [], [], [], []⟩ (aC hx3004 (aC hx3004 (aC hr14_4 (aC hx3004 aN)))) (by kernel_rfl) ?_
      refine W_ret ?_
      exact kr [] _ _ (by kernel_rfl) (Option.some.inj h)
    · have hx3004 := hb3003
      have h := if_f h hx3004
      refine W_y (s' := LS.mk 218 [(4, aB false)] []) mixed [qn0, qn0, qn0, qf0, qf0, qn (.dec false), qn0] ⟨[4], [], [], [], [], [], []⟩ (aC hx3004 (aC hx3004 (aC hx3004 aN))) (by kernel_rfl) ?_
      refine W_ret ?_
      exact kr [] _ _ (by kernel_rfl) (Option.some.inj h)
  · have hx3002 := hb3001
    have h := if_f h hx3002
    refine W_seq ?_
    refine W_y (s' := LS.mk 218 [(0, .t (.sl 6 (a0.map c_GApiNode))), (1, aI .i64 a1), (8, aS (bytesS w0_1006)), (9, .ptr 9 0), (48, aI .u8 x12_2.Kind), (57, aB (decide (x12_2.Kind = 2)))] [(9, some (.box 32 [aI .u8 m2_9_0, aI .i64 m2_9_1, aI .i64 m2_9_2, aI .i64 m2_9_3, aI .i64 m2_9_4, aS m2_9_5]))]) mixed [qn0, qn0] ⟨[0, 1, 8, 9, 48, 57], [], [9], [], [], [], []⟩ aN (by kernel_rfl) ?_
    refine W_cond (decide (x12_2.Kind = 2)) (by kernel_rfl) (fun hb3005 => ?_) (fun hb3005 => ?_)
    · have hx3006 := hb3005
      have h := if_t h hx3006
      refine W_seq ?_
      obtain ⟨r16_1, hr16_1, h⟩ := bind_ok h
      have hr16_1 := hindcastref05_only_ok hr16_1
      refine W_y (s' := LS.mk 218 [(4, aB r16_1)] []) mixed [qn0, qn (.call [] (aB r16_1)), qn0] ⟨[4], [], [], [], [], [], []⟩ (aC hr16_1 aN) (by kernel_rfl) ?_
      refine W_ret ?_
      exact kr [] _ _ (by kernel_rfl) (Option.some.inj h)
    · have hx3006 := hb3005
      have h := if_f h hx3006
      refine W_seq ?_
      refine W_seq ?_
      refine W_y (s' := LS.mk 218 [(0, .t (.sl 6 (a0.map c_GApiNode))), (1, aI .i64 a1), (8, aS (bytesS w0_1006)), (9, .ptr 9 0), (48, aI .u8 x12_2.Kind), (61, aB (decide (x12_2.Kind = 3)))] [(9, some (.box 32 [aI .u8 m2_9_0, aI .i64 m2_9_1, aI .i64 m2_9_2, aI .i64 m2_9_3, aI .i64 m2_9_4, aS m2_9_5]))]) mixed [qn0, qn0] ⟨[0, 1, 8, 9, 48, 61], [], [9], [], [], [], []⟩ aN (by kernel_rfl) ?_
      refine W_cond (decide (x12_2.Kind = 3)) (by kernel_rfl) (fun hb3007 => ?_) (fun hb3007 => ?_)
      · have hx3008 := hb3007
        have h := if_t h hx3008
        refine W_skip ?_
        refine W_cond (decide (x12_2.Kind = 3)) (by kernel_rfl) (fun _ => ?_) (fun hb => nomatch ((hx3008 : (decide (x12_2.Kind = 3)) = true).symm.trans hb))
        refine W_seq ?_
        refine W_y (s' := LS.mk 218 [(4, aB (decide ((bytesS w0_1006) = ([116] : List UInt8))))] []) mixed [qn0, qn (.val (.bool (decide ((bytesS w0_1006) = ([116] : List UInt8))))), qn0] ⟨[4], [], [], [], [], [], []⟩ (aC (str_eq_ob (P := Try.prog) 9 (bytesS w0_1006) ([116] : List UInt8)) aN) (by kernel_rfl) ?_
        refine W_ret ?_
        exact kr [] _ _ (by kernel_rfl) (Option.some.inj h)
      · have hx3008 := hb3007
        have h := if_f h hx3008
        refine W_seq ?_
        refine W_y (s' := LS.mk 218 [(0, .t (.sl 6 (a0.map c_GApiNode))), (1, aI .i64 a1), (8, aS (bytesS w0_1006)), (9, .ptr 9 0), (48, aI .u8 x12_2.Kind), (61, aB (decide (x12_2.Kind = 5)))] [(9, some (.box 32 [aI .u8 m2_9_0, aI .i64 m2_9_1, aI .i64 m2_9_2, aI .i64 m2_9_3, aI .i64 m2_9_4, aS m2_9_5]))]) mixed [qn0, qn0] ⟨[0, 1, 8, 9, 48, 61], [], [9], [], [], [], []⟩ aN (by kernel_rfl) ?_
        refine W_cond (decide (x12_2.Kind = 5)) (by kernel_rfl) (fun hb3009 => ?_) (fun hb3009 => ?_)
        · have hx3010 := hb3009
          have h := if_t h hx3010
          refine W_skip ?_
          refine W_cond (decide (x12_2.Kind = 5)) (by kernel_rfl) (fun _ => ?_) (fun hb => nomatch ((hx3010 : (decide (x12_2.Kind = 5)) = true).symm.trans hb))
          refine W_seq ?_
          refine W_y (s' := LS.mk 218 [(4, aB (decide ((bytesS w0_1006) = ([116] : List UInt8))))] []) mixed [qn0, qn (.val (.bool (decide ((bytesS w0_1006) = ([116] : List UInt8))))), qn0] ⟨[4], [], [], [], [], [], []⟩ (aC (str_eq_ob (P := Try.prog) 9 (bytesS w0_1006) ([116] : List UInt8)) aN) (by kernel_rfl) ?_
          refine W_ret ?_
          exact kr [] _ _ (by kernel_rfl) (Option.some.inj h)
        · have hx3010 := hb3009
          have h := if_f h hx3010
          refine W_y (s' := LS.mk 218 [(0, .t (.sl 6 (a0.map c_GApiNode))), (1, aI .i64 a1), (8, aS (bytesS w0_1006)), (9, .ptr 9 0), (48, aI .u8 x12_2.Kind), (61, aB (decide (x12_2.Kind = 20)))] [(9, some (.box 32 [aI .u8 m2_9_0, aI .i64 m2_9_1, aI .i64 m2_9_2, aI .i64 m2_9_3, aI .i64 m2_9_4, aS m2_9_5]))]) mixed [qn0, qn0] ⟨[0, 1, 8, 9, 48, 61], [], [9], [], [], [], []⟩ aN (by kernel_rfl) ?_
          refine W_cond (decide (x12_2.Kind = 20)) (by kernel_rfl) (fun hb3011 => ?_) (fun hb3011 => ?_)
          · have hx3012 := hb3011
            have h := if_t h hx3012
            refine W_seq ?_
            refine W_y (s' := LS.mk 218 [(4, aB (decide ((bytesS w0_1006) = ([116] : List UInt8))))] []) mixed [qn0, qn (.val (.bool (decide ((bytesS w0_1006) = ([116] : List UInt8))))), qn0] ⟨[4], [], [], [], [], [], []⟩ (aC (str_eq_ob (P := Try.prog) 9 (bytesS w0_1006) ([116] : List UInt8)) aN) (by kernel_rfl) ?_
            refine W_ret ?_
            exact kr [] _ _ (by kernel_rfl) (Option.some.inj h)
          · have hx3012 := hb3011
            have h := if_f h hx3012
            refine W_seq ?_
            refine W_y (s' := LS.mk 218 [(0, .t (.sl 6 (a0.map c_GApiNode))), (1, aI .i64 a1), (8, aS (bytesS w0_1006)), (9, .ptr 9 0), (48, aI .u8 x12_2.Kind), (67, aB (decide (x12_2.Kind = 4)))] [(9, some (.box 32 [aI .u8 m2_9_0, aI .i64 m2_9_1, aI .i64 m2_9_2, aI .i64 m2_9_3, aI .i64 m2_9_4, aS m2_9_5]))]) mixed [qn0, qn0] ⟨[0, 1, 8, 9, 48, 67], [], [9], [], [], [], []⟩ aN (by kernel_rfl) ?_
            refine W_cond (decide (x12_2.Kind = 4)) (by kernel_rfl) (fun hb3013 => ?_) (fun hb3013 => ?_)
            · have hx3014 := hb3013
              have h := if_t h hx3014
              refine W_seq ?_
              refine W_y (s' := LS.mk 218 [(0, .t (.sl 6 (a0.map c_GApiNode))), (1, aI .i64 a1), (8, aS (bytesS w0_1006)), (10, aI .i64 ((bytesS w0_1006).length : Int))] []) mixed [qn0, qn0, qn0] ⟨[0, 1, 8, 10], [], [], [], [], [], []⟩ aN (by kernel_rfl) ?_
              refine W_seq ?_
              refine (Bool.eq_false_or_eq_true (decide (((bytesS w0_1006).length : Int) ≥ 2))).elim (fun hb3015 => ?_) (fun hb3015 => ?_)
              · have hx3016 := hb3015
                have h := if_t h hx3016
                refine (Bool.eq_false_or_eq_true (decide ((w64 (((bytesS w0_1006).length : Int) - 2)) = x12_2.Num))).elim (fun hb3017 => ?_) (fun hb3017 => ?_)
                · have hx3018 := hb3017
                  have h := if_t h hx3018
                  obtain ⟨hd3019, h⟩ := ite_ok h
                  obtain ⟨r23_17, hr23_17, h⟩ := bind_ok h
                  have hr23_17 := hindcastref05_only_ok hr23_17
                  refine (Bool.eq_false_or_eq_true r23_17).elim (fun hb3020 => ?_) (fun hb3020 => ?_)
                  · have hx3021 := hb3020
                    have h := ib_t h hx3021
                    obtain ⟨x23_23, hx23_23, h⟩ := bind_ok h
                    refine (Bool.eq_false_or_eq_true (decide ((x23_23.toNat : Int) = 116))).elim (fun hb3022 => ?_) (fun hb3022 => ?_)
                    · have hx3023 := hb3022
                      have h := if_t h hx3023
                      obtain ⟨x23_37, hx23_37, h⟩ := bind_ok h
                      refine W_y (s' := LS.mk 218 [(4, aB (decide ((x23_37.toNat : Int) = 98)))] []) mixed [qn0, qn0, qn0, qt0, qt0, qt0, qt0, qt (.ix (Int.toNat a1) (c_GApiNode x12_2)), qt0, qt0, qt0, qn (.dec true), qn0, qt0, qt0, qt0, qt (.quiet (aS (cutL (bytesS w0_1006) 0 (w64 (((bytesS w0_1006).length : Int) - 2))))), qt (.call [] (aB r23_17)), qn (.dec true), qn0, qt0, qt0, qt0, qt (.sx (Int.toNat (w64 (((bytesS w0_1006).length : Int) - 2))) x23_23), qt0, qt0, qt0, qt0, qt0, qt0, qt0, qt (.dec true), qn (.dec true), qn0, qn0, qn0, qn0, qn (.sx (Int.toNat (w64 (((bytesS w0_1006).length : Int) - 1))) x23_37), qn0, qn0, qn0] ⟨[4], [], [], [], [], [], []⟩ (aC hx3016 (aC hx3016 (aC hx3016 (aC hx3016 (aC hx3016 (aC (ix_obx c_GApiNode hx12_2) (aC hx3016 (aC hx3016 (aC hx3016 (aC hx3016 (aC hx3018 (aC hx3018 (aC hx3018 (aC hx3018 (aC (show Quiet Try.prog (opAt (subC (bodyC Try.prog 34) [1, 1, 1, 1, 1, 1, 1, 0, 1, 0, 1, 1, 1, 1, 1, 1, 1, 0, 1, 0]) 16) [aS (bytesS w0_1006), aI .i64 (w64 (((bytesS w0_1006).length : Int) - 2))] (aS (cutL (bytesS w0_1006) 0 (w64 (((bytesS w0_1006).length : Int) - 2)))) from cutS_obh (by rfl) (by kernel_rfl) hd3019) (aC hx3018 (aC hr23_17 (aC hx3018 (aC hx3021 (aC hx3021 (aC hx3021 (aC hx3021 (aC (sx_ob hx23_23) (aC hx3021 (aC hx3021 (aC hx3023 (aC hx3023 (aC hx3023 (aC hx3023 (aC hx3023 (aC hx3021 (aC hx3023 (aC hx3021 (aC (sx_ob hx23_37) aN)))))))))))))))))))))))))))))))))) (by kernel_rfl) ?_
                      refine W_ret ?_
                      exact kr [] _ _ (by kernel_rfl) (Option.some.inj h)
                    · have hx3023 := hb3022
                      have h := if_f h hx3023
                      refine (Bool.eq_false_or_eq_true (decide ((x23_23.toNat : Int) = 48))).elim (fun hb3024 => ?_) (fun hb3024 => ?_)
                      · have hx3025 := hb3024
                        have h := if_t h hx3025
                        obtain ⟨x23_37, hx23_37, h⟩ := bind_ok h
                        refine W_y (s' := LS.mk 218 [(4, aB (decide ((x23_37.toNat : Int) = 98)))] []) mixed [qn0, qn0, qn0, qt0, qt0, qt0, qt0, qt (.ix (Int.toNat a1) (c_GApiNode x12_2)), qt0, qt0, qt0, qn (.dec true), qn0, qt0, qt0, qt0, qt (.quiet (aS (cutL (bytesS w0_1006) 0 (w64 (((bytesS w0_1006).length : Int) - 2))))), qt (.call [] (aB r23_17)), qn (.dec true), qn0, qt0, qt0, qt0, qt (.sx (Int.toNat (w64 (((bytesS w0_1006).length : Int) - 2))) x23_23), qt0, qt0, qf0, qf0, qf0, qf (.sx (Int.toNat (w64 (((bytesS w0_1006).length : Int) - 2))) x23_23), qf0, qt (.dec false), qn (.dec true), qn0, qt0, qt0, qt0, qt (.sx (Int.toNat (w64 (((bytesS w0_1006).length : Int) - 1))) x23_37), qt0, qn (.dec true), qn0] ⟨[4], [], [], [], [], [], []⟩ (aC hx3016 (aC hx3016 (aC hx3016 (aC hx3016 (aC hx3016 (aC (ix_obx c_GApiNode hx12_2) (aC hx3016 (aC hx3016 (aC hx3016 (aC hx3016 (aC hx3018 (aC hx3018 (aC hx3018 (aC hx3018 (aC (show Quiet Try.prog (opAt (subC (bodyC Try.prog 34) [1, 1, 1, 1, 1, 1, 1, 0, 1, 0, 1, 1, 1, 1, 1, 1, 1, 0, 1, 0]) 16) [aS (bytesS w0_1006), aI .i64 (w64 (((bytesS w0_1006).length : Int) - 2))] (aS (cutL (bytesS w0_1006) 0 (w64 (((bytesS w0_1006).length : Int) - 2)))) from cutS_obh (by rfl) (by kernel_rfl) hd3019) (aC hx3018 (aC hr23_17 (aC hx3018 (aC hx3021 (aC hx3021 (aC hx3021 (aC hx3021 (aC (sx_ob hx23_23) (aC hx3021 (aC hx3021 (aC hx3023 (aC hx3023 (aC hx3023 (aC hx3023 (aC (sx_ob hx23_23) (aC hx3023 (aC hx3021 (aC hx3023 (aC hx3021 (aC hx3025 (aC hx3025 (aC hx3025 (aC hx3025 (aC (sx_ob hx23_37) (aC hx3025 (aC hx3025 aN))))))))))))))))))))))))))))))))))))))))) (by kernel_rfl) ?_
                        refine W_ret ?_
                        exact kr [] _ _ (by kernel_rfl) (Option.some.inj h)
                      · have hx3025 := hb3024
                        have h := if_f h hx3025
                        refine W_y (s' := LS.mk 218 [(4, aB false)] []) mixed [qn0, qn0, qn0, qt0, qt0, qt0, qt0, qt (.ix (Int.toNat a1) (c_GApiNode x12_2)), qt0, qt0, qt0, qn (.dec true), qn0, qt0, qt0, qt0, qt (.quiet (aS (cutL (bytesS w0_1006) 0 (w64 (((bytesS w0_1006).length : Int) - 2))))), qt (.call [] (aB r23_17)), qn (.dec true), qn0, qt0, qt0, qt0, qt (.sx (Int.toNat (w64 (((bytesS w0_1006).length : Int) - 2))) x23_23), qt0, qt0, qf0, qf0, qf0, qf (.sx (Int.toNat (w64 (((bytesS w0_1006).length : Int) - 2))) x23_23), qf0, qt (.dec false), qn (.dec true), qn0, qf0, qf0, qf0, qf0, qf0, qn (.dec false), qn0] ⟨[4], [], [], [], [], [], []⟩ (aC hx3016 (aC hx3016 (aC hx3016 (aC hx3016 (aC hx3016 (aC (ix_obx c_GApiNode hx12_2) (aC hx3016 (aC hx3016 (aC hx3016 (aC hx3016 (aC hx3018 (aC hx3018 (aC hx3018 (aC hx3018 (aC (show Quiet Try.prog (opAt (subC (bodyC Try.prog 34) [1, 1, 1, 1, 1, 1, 1, 0, 1, 0, 1, 1, 1, 1, 1, 1, 1, 0, 1, 0]) 16) [aS (bytesS w0_1006), aI .i64 (w64 (((bytesS w0_1006).length : Int) - 2))] (aS (cutL (bytesS w0_1006) 0 (w64 (((bytesS w0_1006).length : Int) - 2)))) from cutS_obh (by rfl) (by kernel_rfl) hd3019) (aC hx3018 (aC hr23_17 (aC hx3018 (aC hx3021 (aC hx3021 (aC hx3021 (aC hx3021 (aC (sx_ob hx23_23) (aC hx3021 (aC hx3021 (aC hx3023 (aC hx3023 (aC hx3023 (aC hx3023 (aC (sx_ob hx23_23) (aC hx3023 (aC hx3021 (aC hx3023 (aC hx3021 (aC hx3025 (aC hx3025 (aC hx3025 (aC hx3025 (aC hx3025 (aC hx3025 aN)))))))))))))))))))))))))))))))))))))))) (by kernel_rfl) ?_
                        refine W_ret ?_
                        exact kr [] _ _ (by kernel_rfl) (Option.some.inj h)
                  · have hx3021 := hb3020
                    have h := ib_f h hx3021
                    refine W_y (s' := LS.mk 218 [(4, aB false)] []) mixed [qn0, qn0, qn0, qt0, qt0, qt0, qt0, qt (.ix (Int.toNat a1) (c_GApiNode x12_2)), qt0, qt0, qt0, qn (.dec true), qn0, qt0, qt0, qt0, qt (.quiet (aS (cutL (bytesS w0_1006) 0 (w64 (((bytesS w0_1006).length : Int) - 2))))), qt (.call [] (aB r23_17)), qn (.dec true), qn0, qf0, qf0, qf0, qf0, qf0, qf0, qn0, qn0, qn0, qn0, qn0, qf0, qn (.dec false), qn0, qn0, qn0, qn0, qn0, qn0, qn0, qn0] ⟨[4], [], [], [], [], [], []⟩ (aC hx3016 (aC hx3016 (aC hx3016 (aC hx3016 (aC hx3016 (aC (ix_obx c_GApiNode hx12_2) (aC hx3016 (aC hx3016 (aC hx3016 (aC hx3016 (aC hx3018 (aC hx3018 (aC hx3018 (aC hx3018 (aC (show Quiet Try.prog (opAt (subC (bodyC Try.prog 34) [1, 1, 1, 1, 1, 1, 1, 0, 1, 0, 1, 1, 1, 1, 1, 1, 1, 0, 1, 0]) 16) [aS (bytesS w0_1006), aI .i64 (w64 (((bytesS w0_1006).length : Int) - 2))] (aS (cutL (bytesS w0_1006) 0 (w64 (((bytesS w0_1006).length : Int) - 2)))) from cutS_obh (by rfl) (by kernel_rfl) hd3019) (aC hx3018 (aC hr23_17 (aC hx3018 (aC hx3021 (aC hx3021 (aC hx3021 (aC hx3021 (aC hx3021 (aC hx3021 (aC hx3021 (aC hx3021 aN)))))))))))))))))))))))))) (by kernel_rfl) ?_
                    refine W_ret ?_
                    exact kr [] _ _ (by kernel_rfl) (Option.some.inj h)
                · have hx3018 := hb3017
                  have h := if_f h hx3018
                  refine W_y (s' := LS.mk 218 [(4, aB false)] []) mixed [qn0, qn0, qn0, qt0, qt0, qt0, qt0, qt (.ix (Int.toNat a1) (c_GApiNode x12_2)), qt0, qt0, qt0, qn (.dec true), qn0, qf0, qf0, qf0, qf0, qf0, qn (.dec false), qn0, qn0, qn0, qn0, qn0, qn0, qn0, qn0, qn0, qn0, qn0, qn0, qn0, qn0, qn0, qn0, qn0, qn0, qn0, qn0, qn0, qn0] ⟨[4], [], [], [], [], [], []⟩ (aC hx3016 (aC hx3016 (aC hx3016 (aC hx3016 (aC hx3016 (aC (ix_obx c_GApiNode hx12_2) (aC hx3016 (aC hx3016 (aC hx3016 (aC hx3016 (aC hx3018 (aC hx3018 (aC hx3018 (aC hx3018 (aC hx3018 (aC hx3018 aN)))))))))))))))) (by kernel_rfl) ?_
                  refine W_ret ?_
                  exact kr [] _ _ (by kernel_rfl) (Option.some.inj h)
              · have hx3016 := hb3015
                have h := if_f h hx3016
                refine W_y (s' := LS.mk 218 [(4, aB false)] []) mixed [qn0, qn0, qn0, qf0, qf0, qf0, qf0, qf0, qf0, qf0, qf0, qn (.dec false), qn0, qn0, qn0, qn0, qn0, qn0, qn0, qn0, qn0, qn0, qn0, qn0, qn0, qn0, qn0, qn0, qn0, qn0, qn0, qn0, qn0, qn0, qn0, qn0, qn0, qn0, qn0, qn0, qn0] ⟨[4], [], [], [], [], [], []⟩ (aC hx3016 (aC hx3016 (aC hx3016 (aC hx3016 (aC hx3016 (aC hx3016 (aC hx3016 (aC hx3016 (aC hx3016 aN))))))))) (by kernel_rfl) ?_
                refine W_ret ?_
                exact kr [] _ _ (by kernel_rfl) (Option.some.inj h)
            · have hx3014 := hb3013
              have h := if_f h hx3014
              refine W_seq ?_
              refine W_y (s' := LS.mk 218 [(0, .t (.sl 6 (a0.map c_GApiNode))), (1, aI .i64 a1), (8, aS (bytesS w0_1006)), (9, .ptr 9 0), (48, aI .u8 x12_2.Kind), (111, aB (decide (x12_2.Kind = 6)))] [(9, some (.box 32 [aI .u8 m2_9_0, aI .i64 m2_9_1, aI .i64 m2_9_2, aI .i64 m2_9_3, aI .i64 m2_9_4, aS m2_9_5]))]) mixed [qn0, qn0] ⟨[0, 1, 8, 9, 48, 111], [], [9], [], [], [], []⟩ aN (by kernel_rfl) ?_
              refine W_cond (decide (x12_2.Kind = 6)) (by kernel_rfl) (fun hb3026 => ?_) (fun hb3026 => ?_)
              · have hx3027 := hb3026
                have h := if_t h hx3027
                refine W_seq ?_
                obtain ⟨r25_1, hr25_1, h⟩ := bind_ok h
                have hr25_1 := hindcastref05_only_ok hr25_1
                refine W_y (s' := LS.mk 218 [(4, aB r25_1)] []) mixed [qn0, qn (.call [] (aB r25_1)), qn0] ⟨[4], [], [], [], [], [], []⟩ (aC hr25_1 aN) (by kernel_rfl) ?_
                refine W_ret ?_
                exact kr [] _ _ (by kernel_rfl) (Option.some.inj h)
              · have hx3027 := hb3026
                have h := if_f h hx3027
                refine W_seq ?_
                refine W_y (s' := LS.mk 218 [(0, .t (.sl 6 (a0.map c_GApiNode))), (1, aI .i64 a1), (8, aS (bytesS w0_1006)), (9, .ptr 9 0), (48, aI .u8 x12_2.Kind), (115, aB (decide (x12_2.Kind = 7)))] [(9, some (.box 32 [aI .u8 m2_9_0, aI .i64 m2_9_1, aI .i64 m2_9_2, aI .i64 m2_9_3, aI .i64 m2_9_4, aS m2_9_5]))]) mixed [qn0, qn0] ⟨[0, 1, 8, 9, 48, 115], [], [9], [], [], [], []⟩ aN (by kernel_rfl) ?_
                refine W_cond (decide (x12_2.Kind = 7)) (by kernel_rfl) (fun hb3028 => ?_) (fun hb3028 => ?_)
                · have hx3029 := hb3028
                  have h := if_t h hx3029
                  refine W_seq ?_
                  refine W_y (s' := LS.mk 218 [(4, aB (decide ((bytesS w0_1006) = ([116, 101] : List UInt8))))] []) mixed [qn0, qn (.val (.bool (decide ((bytesS w0_1006) = ([116, 101] : List UInt8))))), qn0] ⟨[4], [], [], [], [], [], []⟩ (aC (str_eq_ob (P := Try.prog) 9 (bytesS w0_1006) ([116, 101] : List UInt8)) aN) (by kernel_rfl) ?_
                  refine W_ret ?_
                  exact kr [] _ _ (by kernel_rfl) (Option.some.inj h)
                · have hx3029 := hb3028
                  have h := if_f h hx3029
                  refine W_seq ?_
                  refine W_y (s' := LS.mk 218 [(0, .t (.sl 6 (a0.map c_GApiNode))), (1, aI .i64 a1), (8, aS (bytesS w0_1006)), (9, .ptr 9 0), (48, aI .u8 x12_2.Kind), (119, aB (decide (x12_2.Kind = 8)))] [(9, some (.box 32 [aI .u8 m2_9_0, aI .i64 m2_9_1, aI .i64 m2_9_2, aI .i64 m2_9_3, aI .i64 m2_9_4, aS m2_9_5]))]) mixed [qn0, qn0] ⟨[0, 1, 8, 9, 48, 119], [], [9], [], [], [], []⟩ aN (by kernel_rfl) ?_
                  refine W_cond (decide (x12_2.Kind = 8)) (by kernel_rfl) (fun hb3030 => ?_) (fun hb3030 => ?_)
                  · have hx3031 := hb3030
                    have h := if_t h hx3031
                    refine W_seq ?_
                    refine (Bool.eq_false_or_eq_true (decide ((bytesS w0_1006) = ([101, 101] : List UInt8)))).elim (fun hb3032 => ?_) (fun hb3032 => ?_)
                    · have hx3033 := hb3032
                      have h := if_t h hx3033
                      refine (Bool.eq_false_or_eq_true (decide (m2_9_0 = 26))).elim (fun hb3034 => ?_) (fun hb3034 => ?_)
                      · have hx3035 := hb3034
                        have h := if_t h hx3035
                        refine W_y (s' := LS.mk 218 [(4, aB true)] []) mixed [qn0, qn (.val (.bool (decide ((bytesS w0_1006) = ([101, 101] : List UInt8))))), qn0, qt0, qt0, qt0, qt0, qt0, qt0, qt0, qt (.dec true), qt0, qn0, qn0, qn0, qt0, qn (.dec true), qn0] ⟨[4], [], [], [], [], [], []⟩ (aC (str_eq_ob (P := Try.prog) 9 (bytesS w0_1006) ([101, 101] : List UInt8)) (aC hx3033 (aC hx3033 (aC hx3033 (aC hx3033 (aC hx3035 (aC hx3035 (aC hx3035 (aC hx3033 (aC hx3035 (aC hx3033 (aC hx3033 (aC hx3033 aN))))))))))))) (by kernel_rfl) ?_
                        refine W_ret ?_
                        exact kr [] _ _ (by kernel_rfl) (Option.some.inj h)
                      · have hx3035 := hb3034
                        have h := if_f h hx3035
                        refine (Bool.eq_false_or_eq_true (decide (m2_9_0 = 28))).elim (fun hb3036 => ?_) (fun hb3036 => ?_)
                        · have hx3037 := hb3036
                          have h := if_t h hx3037
                          refine W_y (s' := LS.mk 218 [(4, aB true)] []) mixed [qn0, qn (.val (.bool (decide ((bytesS w0_1006) = ([101, 101] : List UInt8))))), qn0, qt0, qt0, qt0, qt0, qf0, qf0, qf0, qt (.dec false), qt0, qt0, qt0, qt0, qt (.dec true), qn (.dec true), qn0] ⟨[4], [], [], [], [], [], []⟩ (aC (str_eq_ob (P := Try.prog) 9 (bytesS w0_1006) ([101, 101] : List UInt8)) (aC hx3033 (aC hx3033 (aC hx3033 (aC hx3033 (aC hx3035 (aC hx3035 (aC hx3035 (aC hx3033 (aC hx3035 (aC hx3033 (aC hx3037 (aC hx3037 (aC hx3037 (aC hx3033 (aC hx3037 (aC hx3033 aN))))))))))))))))) (by kernel_rfl) ?_
                          refine W_ret ?_
                          exact kr [] _ _ (by kernel_rfl) (Option.some.inj h)
                        · have hx3037 := hb3036
                          have h := if_f h hx3037
                          refine W_y (s' := LS.mk 218 [(4, aB (decide (m2_9_0 = 29)))] []) mixed [qn0, qn (.val (.bool (decide ((bytesS w0_1006) = ([101, 101] : List UInt8))))), qn0, qt0, qt0, qt0, qt0, qf0, qf0, qf0, qt (.dec false), qt0, qf0, qf0, qf0, qt (.dec false), qn (.dec true), qn0] ⟨[4], [], [], [], [], [], []⟩ (aC (str_eq_ob (P := Try.prog) 9 (bytesS w0_1006) ([101, 101] : List UInt8)) (aC hx3033 (aC hx3033 (aC hx3033 (aC hx3033 (aC hx3035 (aC hx3035 (aC hx3035 (aC hx3033 (aC hx3035 (aC hx3033 (aC hx3037 (aC hx3037 (aC hx3037 (aC hx3033 (aC hx3037 (aC hx3033 aN))))))))))))))))) (by kernel_rfl) ?_
                          refine W_ret ?_
                          exact kr [] _ _ (by kernel_rfl) (Option.some.inj h)
                    · have hx3033 := hb3032
                      have h := if_f h hx3033
                      refine W_y (s' := LS.mk 218 [(4, aB false)] []) mixed [qn0, qn (.val (.bool (decide ((bytesS w0_1006) = ([101, 101] : List UInt8))))), qn0, qf0, qf0, qf0, qf0, qn0, qn0, qn0, qf0, qf0, qn0, qn0, qn0, qf0, qn (.dec false), qn0] ⟨[4], [], [], [], [], [], []⟩ (aC (str_eq_ob (P := Try.prog) 9 (bytesS w0_1006) ([101, 101] : List UInt8)) (aC hx3033 (aC hx3033 (aC hx3033 (aC hx3033 (aC hx3033 (aC hx3033 (aC hx3033 (aC hx3033 aN))))))))) (by kernel_rfl) ?_
                      refine W_ret ?_
                      exact kr [] _ _ (by kernel_rfl) (Option.some.inj h)
                  · have hx3031 := hb3030
                    have h := if_f h hx3031
                    refine W_seq ?_
                    refine W_y (s' := LS.mk 218 [(0, .t (.sl 6 (a0.map c_GApiNode))), (1, aI .i64 a1), (8, aS (bytesS w0_1006)), (9, .ptr 9 0), (48, aI .u8 x12_2.Kind), (138, aB (decide (x12_2.Kind = 9)))] [(9, some (.box 32 [aI .u8 m2_9_0, aI .i64 m2_9_1, aI .i64 m2_9_2, aI .i64 m2_9_3, aI .i64 m2_9_4, aS m2_9_5]))]) mixed [qn0, qn0] ⟨[0, 1, 8, 9, 48, 138], [], [9], [], [], [], []⟩ aN (by kernel_rfl) ?_
                    refine W_cond (decide (x12_2.Kind = 9)) (by kernel_rfl) (fun hb3038 => ?_) (fun hb3038 => ?_)
                    · have hx3039 := hb3038
                      have h := if_t h hx3039
                      refine W_seq ?_
                      refine (Bool.eq_false_or_eq_true (decide ((bytesS w0_1006) = ([101, 98] : List UInt8)))).elim (fun hb3040 => ?_) (fun hb3040 => ?_)
                      · have hx3041 := hb3040
                        have h := if_t h hx3041
                        refine W_y (s' := LS.mk 218 [(4, aB true)] []) mixed [qn0, qn (.val (.bool (decide ((bytesS w0_1006) = ([101, 98] : List UInt8))))), qn0, qt0, qt0, qn (.dec true), qn0] ⟨[4], [], [], [], [], [], []⟩ (aC (str_eq_ob (P := Try.prog) 9 (bytesS w0_1006) ([101, 98] : List UInt8)) (aC hx3041 (aC hx3041 (aC hx3041 aN)))) (by kernel_rfl) ?_
                        refine W_ret ?_
                        exact kr [] _ _ (by kernel_rfl) (Option.some.inj h)
                      · have hx3041 := hb3040
                        have h := if_f h hx3041
                        refine W_y (s' := LS.mk 218 [(4, aB (decide ((bytesS w0_1006) = ([101, 98, 98] : List UInt8))))] []) mixed [qn0, qn (.val (.bool (decide ((bytesS w0_1006) = ([101, 98] : List UInt8))))), qn0, qf0, qf (.val (.bool (decide ((bytesS w0_1006) = ([101, 98, 98] : List UInt8))))), qn (.dec false), qn0] ⟨[4], [], [], [], [], [], []⟩ (aC (str_eq_ob (P := Try.prog) 9 (bytesS w0_1006) ([101, 98] : List UInt8)) (aC hx3041 (aC hx3041 (aC (str_eq_ob (P := Try.prog) 9 (bytesS w0_1006) ([101, 98, 98] : List UInt8)) (aC hx3041 aN))))) (by kernel_rfl) ?_
                        refine W_ret ?_
                        exact kr [] _ _ (by kernel_rfl) (Option.some.inj h)
                    · have hx3039 := hb3038
                      have h := if_f h hx3039
                      refine W_seq ?_
                      refine W_y (s' := LS.mk 218 [(0, .t (.sl 6 (a0.map c_GApiNode))), (1, aI .i64 a1), (8, aS (bytesS w0_1006)), (9, .ptr 9 0), (48, aI .u8 x12_2.Kind), (146, aB (decide (x12_2.Kind = 10)))] [(9, some (.box 32 [aI .u8 m2_9_0, aI .i64 m2_9_1, aI .i64 m2_9_2, aI .i64 m2_9_3, aI .i64 m2_9_4, aS m2_9_5]))]) mixed [qn0, qn0] ⟨[0, 1, 8, 9, 48, 146], [], [9], [], [], [], []⟩ aN (by kernel_rfl) ?_
                      refine W_cond (decide (x12_2.Kind = 10)) (by kernel_rfl) (fun hb3042 => ?_) (fun hb3042 => ?_)
                      · have hx3043 := hb3042
                        have h := if_t h hx3043
                        refine W_seq ?_
                        refine W_y (s' := LS.mk 218 [(4, aB (decide ((bytesS w0_1006) = ([101, 98] : List UInt8))))] []) mixed [qn0, qn (.val (.bool (decide ((bytesS w0_1006) = ([101, 98] : List UInt8))))), qn0] ⟨[4], [], [], [], [], [], []⟩ (aC (str_eq_ob (P := Try.prog) 9 (bytesS w0_1006) ([101, 98] : List UInt8)) aN) (by kernel_rfl) ?_
                        refine W_ret ?_
                        exact kr [] _ _ (by kernel_rfl) (Option.some.inj h)
                      · have hx3043 := hb3042
                        have h := if_f h hx3043
                        refine W_seq ?_
                        refine W_y (s' := LS.mk 218 [(0, .t (.sl 6 (a0.map c_GApiNode))), (1, aI .i64 a1), (8, aS (bytesS w0_1006)), (9, .ptr 9 0), (48, aI .u8 x12_2.Kind), (150, aB (decide (x12_2.Kind = 11)))] [(9, some (.box 32 [aI .u8 m2_9_0, aI .i64 m2_9_1, aI .i64 m2_9_2, aI .i64 m2_9_3, aI .i64 m2_9_4, aS m2_9_5]))]) mixed [qn0, qn0] ⟨[0, 1, 8, 9, 48, 150], [], [9], [], [], [], []⟩ aN (by kernel_rfl) ?_
                        refine W_cond (decide (x12_2.Kind = 11)) (by kernel_rfl) (fun hb3044 => ?_) (fun hb3044 => ?_)
                        · have hx3045 := hb3044
                          have h := if_t h hx3045
                          refine W_seq ?_
                          refine (Bool.eq_false_or_eq_true (decide ((bytesS w0_1006) = ([] : List UInt8)))).elim (fun hb3046 => ?_) (fun hb3046 => ?_)
                          · have hx3047 := hb3046
                            have h := if_t h hx3047
                            refine W_y (s' := LS.mk 218 [(4, aB true)] []) mixed [qn0, qn (.val (.bool (decide ((bytesS w0_1006) = ([] : List UInt8))))), qn0, qt0, qt0, qn (.dec true), qn0] ⟨[4], [], [], [], [], [], []⟩ (aC (str_eq_ob (P := Try.prog) 9 (bytesS w0_1006) ([] : List UInt8)) (aC hx3047 (aC hx3047 (aC hx3047 aN)))) (by kernel_rfl) ?_
                            refine W_ret ?_
                            exact kr [] _ _ (by kernel_rfl) (Option.some.inj h)
                          · have hx3047 := hb3046
                            have h := if_f h hx3047
                            refine W_y (s' := LS.mk 218 [(4, aB (decide ((bytesS w0_1006) = ([101] : List UInt8))))] []) mixed [qn0, qn (.val (.bool (decide ((bytesS w0_1006) = ([] : List UInt8))))), qn0, qf0, qf (.val (.bool (decide ((bytesS w0_1006) = ([101] : List UInt8))))), qn (.dec false), qn0] ⟨[4], [], [], [], [], [], []⟩ (aC (str_eq_ob (P := Try.prog) 9 (bytesS w0_1006) ([] : List UInt8)) (aC hx3047 (aC hx3047 (aC (str_eq_ob (P := Try.prog) 9 (bytesS w0_1006) ([101] : List UInt8)) (aC hx3047 aN))))) (by kernel_rfl) ?_
                            refine W_ret ?_
                            exact kr [] _ _ (by kernel_rfl) (Option.some.inj h)
                        · have hx3045 := hb3044
                          have h := if_f h hx3045
                          refine W_seq ?_
                          refine W_seq ?_
                          refine W_y (s' := LS.mk 218 [(0, .t (.sl 6 (a0.map c_GApiNode))), (1, aI .i64 a1), (8, aS (bytesS w0_1006)), (9, .ptr 9 0), (48, aI .u8 x12_2.Kind), (158, aB (decide (x12_2.Kind = 12)))] [(9, some (.box 32 [aI .u8 m2_9_0, aI .i64 m2_9_1, aI .i64 m2_9_2, aI .i64 m2_9_3, aI .i64 m2_9_4, aS m2_9_5]))]) mixed [qn0, qn0] ⟨[0, 1, 8, 9, 48, 158], [], [9], [], [], [], []⟩ aN (by kernel_rfl) ?_
                          refine W_cond (decide (x12_2.Kind = 12)) (by kernel_rfl) (fun hb3048 => ?_) (fun hb3048 => ?_)
                          · have hx3049 := hb3048
                            have h := if_t h hx3049
                            refine W_skip ?_
                            refine W_cond (decide (x12_2.Kind = 12)) (by kernel_rfl) (fun _ => ?_) (fun hb => nomatch ((hx3049 : (decide (x12_2.Kind = 12)) = true).symm.trans hb))
                            refine W_seq ?_
                            refine W_y (s' := LS.mk 218 [(4, aB (decide ((bytesS w0_1006) = ([101] : List UInt8))))] []) mixed [qn0, qn (.val (.bool (decide ((bytesS w0_1006) = ([101] : List UInt8))))), qn0] ⟨[4], [], [], [], [], [], []⟩ (aC (str_eq_ob (P := Try.prog) 9 (bytesS w0_1006) ([101] : List UInt8)) aN) (by kernel_rfl) ?_
                            refine W_ret ?_
                            exact kr [] _ _ (by kernel_rfl) (Option.some.inj h)
                          · have hx3049 := hb3048
                            have h := if_f h hx3049
                            refine W_seq ?_
                            refine W_y (s' := LS.mk 218 [(0, .t (.sl 6 (a0.map c_GApiNode))), (1, aI .i64 a1), (8, aS (bytesS w0_1006)), (9, .ptr 9 0), (48, aI .u8 x12_2.Kind), (158, aB (decide (x12_2.Kind = 29)))] [(9, some (.box 32 [aI .u8 m2_9_0, aI .i64 m2_9_1, aI .i64 m2_9_2, aI .i64 m2_9_3, aI .i64 m2_9_4, aS m2_9_5]))]) mixed [qn0, qn0] ⟨[0, 1, 8, 9, 48, 158], [], [9], [], [], [], []⟩ aN (by kernel_rfl) ?_
                            refine W_cond (decide (x12_2.Kind = 29)) (by kernel_rfl) (fun hb3050 => ?_) (fun hb3050 => ?_)
                            · have hx3051 := hb3050
                              have h := if_t h hx3051
                              refine W_skip ?_
                              refine W_cond (decide (x12_2.Kind = 29)) (by kernel_rfl) (fun _ => ?_) (fun hb => nomatch ((hx3051 : (decide (x12_2.Kind = 29)) = true).symm.trans hb))
                              refine W_seq ?_
                              refine W_y (s' := LS.mk 218 [(4, aB (decide ((bytesS w0_1006) = ([101] : List UInt8))))] []) mixed [qn0, qn (.val (.bool (decide ((bytesS w0_1006) = ([101] : List UInt8))))), qn0] ⟨[4], [], [], [], [], [], []⟩ (aC (str_eq_ob (P := Try.prog) 9 (bytesS w0_1006) ([101] : List UInt8)) aN) (by kernel_rfl) ?_
                              refine W_ret ?_
                              exact kr [] _ _ (by kernel_rfl) (Option.some.inj h)
                            · have hx3051 := hb3050
                              have h := if_f h hx3051
                              refine W_y (s' := LS.mk 218 [(0, .t (.sl 6 (a0.map c_GApiNode))), (1, aI .i64 a1), (8, aS (bytesS w0_1006)), (9, .ptr 9 0), (48, aI .u8 x12_2.Kind), (158, aB (decide (x12_2.Kind = 30)))] [(9, some (.box 32 [aI .u8 m2_9_0, aI .i64 m2_9_1, aI .i64 m2_9_2, aI .i64 m2_9_3, aI .i64 m2_9_4, aS m2_9_5]))]) mixed [qn0, qn0] ⟨[0, 1, 8, 9, 48, 158], [], [9], [], [], [], []⟩ aN (by kernel_rfl) ?_
                              refine W_cond (decide (x12_2.Kind = 30)) (by kernel_rfl) (fun hb3052 => ?_) (fun hb3052 => ?_)
                              · have hx3053 := hb3052
                                have h := if_t h hx3053
                                refine W_seq ?_
                                refine W_y (s' := LS.mk 218 [(4, aB (decide ((bytesS w0_1006) = ([101] : List UInt8))))] []) mixed [qn0, qn (.val (.bool (decide ((bytesS w0_1006) = ([101] : List UInt8))))), qn0] ⟨[4], [], [], [], [], [], []⟩ (aC (str_eq_ob (P := Try.prog) 9 (bytesS w0_1006) ([101] : List UInt8)) aN) (by kernel_rfl) ?_
                                refine W_ret ?_
                                exact kr [] _ _ (by kernel_rfl) (Option.some.inj h)
                              · have hx3053 := hb3052
                                have h := if_f h hx3053
                                refine W_seq ?_
                                refine W_y (s' := LS.mk 218 [(0, .t (.sl 6 (a0.map c_GApiNode))), (1, aI .i64 a1), (8, aS (bytesS w0_1006)), (9, .ptr 9 0), (48, aI .u8 x12_2.Kind), (164, aB (decide (x12_2.Kind = 13)))] [(9, some (.box 32 [aI .u8 m2_9_0, aI .i64 m2_9_1, aI .i64 m2_9_2, aI .i64 m2_9_3, aI .i64 m2_9_4, aS m2_9_5]))]) mixed [qn0, qn0] ⟨[0, 1, 8, 9, 48, 164], [], [9], [], [], [], []⟩ aN (by kernel_rfl) ?_
                                refine W_cond (decide (x12_2.Kind = 13)) (by kernel_rfl) (fun hb3054 => ?_) (fun hb3054 => ?_)
                                · have hx3055 := hb3054
                                  have h := if_t h hx3055
                                  refine W_seq ?_
                                  refine (Bool.eq_false_or_eq_true (decide ((bytesS w0_1006) = ([101] : List UInt8)))).elim (fun hb3056 => ?_) (fun hb3056 => ?_)
                                  · have hx3057 := hb3056
                                    have h := if_t h hx3057
                                    refine W_y (s' := LS.mk 218 [(4, aB (decide (m2_9_0 = 27)))] []) mixed [qn0, qn (.val (.bool (decide ((bytesS w0_1006) = ([101] : List UInt8))))), qn0, qt0, qt0, qt0, qn (.dec true), qn0] ⟨[4], [], [], [], [], [], []⟩ (aC (str_eq_ob (P := Try.prog) 9 (bytesS w0_1006) ([101] : List UInt8)) (aC hx3057 (aC hx3057 (aC hx3057 (aC hx3057 aN))))) (by kernel_rfl) ?_
                                    refine W_ret ?_
                                    exact kr [] _ _ (by kernel_rfl) (Option.some.inj h)
                                  · have hx3057 := hb3056
                                    have h := if_f h hx3057
                                    refine W_y (s' := LS.mk 218 [(4, aB false)] []) mixed [qn0, qn (.val (.bool (decide ((bytesS w0_1006) = ([101] : List UInt8))))), qn0, qf0, qf0, qf0, qn (.dec false), qn0] ⟨[4], [], [], [], [], [], []⟩ (aC (str_eq_ob (P := Try.prog) 9 (bytesS w0_1006) ([101] : List UInt8)) (aC hx3057 (aC hx3057 (aC hx3057 (aC hx3057 aN))))) (by kernel_rfl) ?_
                                    refine W_ret ?_
                                    exact kr [] _ _ (by kernel_rfl) (Option.some.inj h)
                                · have hx3055 := hb3054
                                  have h := if_f h hx3055
                                  refine W_seq ?_
                                  refine W_y (s' := LS.mk 218 [(0, .t (.sl 6 (a0.map c_GApiNode))), (1, aI .i64 a1), (8, aS (bytesS w0_1006)), (9, .ptr 9 0), (48, aI .u8 x12_2.Kind), (173, aB (decide (x12_2.Kind = 27)))] [(9, some (.box 32 [aI .u8 m2_9_0, aI .i64 m2_9_1, aI .i64 m2_9_2, aI .i64 m2_9_3, aI .i64 m2_9_4, aS m2_9_5]))]) mixed [qn0, qn0] ⟨[0, 1, 8, 9, 48, 173], [], [9], [], [], [], []⟩ aN (by kernel_rfl) ?_
                                  refine W_cond (decide (x12_2.Kind = 27)) (by kernel_rfl) (fun hb3058 => ?_) (fun hb3058 => ?_)
                                  · have hx3059 := hb3058
                                    have h := if_t h hx3059
                                    refine W_seq ?_
                                    obtain ⟨r43_1, hr43_1, h⟩ := bind_ok h
                                    have hr43_1 := hindcastref05_only_ok hr43_1
                                    refine W_y (s' := LS.mk 218 [(4, aB r43_1)] []) mixed [qn0, qn (.call [] (aB r43_1)), qn0] ⟨[4], [], [], [], [], [], []⟩ (aC hr43_1 aN) (by kernel_rfl) ?_
                                    refine W_ret ?_
                                    exact kr [] _ _ (by kernel_rfl) (Option.some.inj h)
                                  · have hx3059 := hb3058
                                    have h := if_f h hx3059
                                    refine W_seq ?_
                                    refine W_seq ?_
                                    refine W_y (s' := LS.mk 218 [(0, .t (.sl 6 (a0.map c_GApiNode))), (1, aI .i64 a1), (8, aS (bytesS w0_1006)), (9, .ptr 9 0), (48, aI .u8 x12_2.Kind), (177, aB (decide (x12_2.Kind = 28)))] [(9, some (.box 32 [aI .u8 m2_9_0, aI .i64 m2_9_1, aI .i64 m2_9_2, aI .i64 m2_9_3, aI .i64 m2_9_4, aS m2_9_5]))]) mixed [qn0, qn0] ⟨[0, 1, 8, 9, 48, 177], [], [9], [], [], [], []⟩ aN (by kernel_rfl) ?_
                                    refine W_cond (decide (x12_2.Kind = 28)) (by kernel_rfl) (fun hb3060 => ?_) (fun hb3060 => ?_)
                                    · have hx3061 := hb3060
                                      have h := if_t h hx3061
                                      refine W_skip ?_
                                      refine W_cond (decide (x12_2.Kind = 28)) (by kernel_rfl) (fun _ => ?_) (fun hb => nomatch ((hx3061 : (decide (x12_2.Kind = 28)) = true).symm.trans hb))
                                      refine W_seq ?_
                                      refine W_y (s' := LS.mk 218 [(4, aB (decide ((bytesS w0_1006) = ([101, 101] : List UInt8))))] []) mixed [qn0, qn (.val (.bool (decide ((bytesS w0_1006) = ([101, 101] : List UInt8))))), qn0] ⟨[4], [], [], [], [], [], []⟩ (aC (str_eq_ob (P := Try.prog) 9 (bytesS w0_1006) ([101, 101] : List UInt8)) aN) (by kernel_rfl) ?_
                                      refine W_ret ?_
                                      exact kr [] _ _ (by kernel_rfl) (Option.some.inj h)
                                    · have hx3061 := hb3060
                                      have h := if_f h hx3061
                                      refine W_y (s' := LS.mk 218 [(0, .t (.sl 6 (a0.map c_GApiNode))), (1, aI .i64 a1), (8, aS (bytesS w0_1006)), (9, .ptr 9 0), (48, aI .u8 x12_2.Kind), (177, aB (decide (x12_2.Kind = 31)))] [(9, some (.box 32 [aI .u8 m2_9_0, aI .i64 m2_9_1, aI .i64 m2_9_2, aI .i64 m2_9_3, aI .i64 m2_9_4, aS m2_9_5]))]) mixed [qn0, qn0] ⟨[0, 1, 8, 9, 48, 177], [], [9], [], [], [], []⟩ aN (by kernel_rfl) ?_
                                      refine W_cond (decide (x12_2.Kind = 31)) (by kernel_rfl) (fun hb3062 => ?_) (fun hb3062 => ?_)
                                      · have hx3063 := hb3062
                                        have h := if_t h hx3063
                                        refine W_seq ?_
                                        refine W_y (s' := LS.mk 218 [(4, aB (decide ((bytesS w0_1006) = ([101, 101] : List UInt8))))] []) mixed [qn0, qn (.val (.bool (decide ((bytesS w0_1006) = ([101, 101] : List UInt8))))), qn0] ⟨[4], [], [], [], [], [], []⟩ (aC (str_eq_ob (P := Try.prog) 9 (bytesS w0_1006) ([101, 101] : List UInt8)) aN) (by kernel_rfl) ?_
                                        refine W_ret ?_
                                        exact kr [] _ _ (by kernel_rfl) (Option.some.inj h)
                                      · have hx3063 := hb3062
                                        have h := if_f h hx3063
                                        refine W_seq ?_
                                        refine W_y (s' := LS.mk 218 [(0, .t (.sl 6 (a0.map c_GApiNode))), (1, aI .i64 a1), (8, aS (bytesS w0_1006)), (9, .ptr 9 0), (182, aB (decide (x12_2.Kind = 32)))] [(9, some (.box 32 [aI .u8 m2_9_0, aI .i64 m2_9_1, aI .i64 m2_9_2, aI .i64 m2_9_3, aI .i64 m2_9_4, aS m2_9_5]))]) mixed [qn0, qn0] ⟨[0, 1, 8, 9, 182], [], [9], [], [], [], []⟩ aN (by kernel_rfl) ?_
                                        refine W_cond (decide (x12_2.Kind = 32)) (by kernel_rfl) (fun hb3064 => ?_) (fun hb3064 => ?_)
                                        · have hx3065 := hb3064
                                          have h := if_t h hx3065
                                          refine W_seq ?_
                                          refine (Bool.eq_false_or_eq_true (decide ((bytesS w0_1006) = ([116] : List UInt8)))).elim (fun hb3066 => ?_) (fun hb3066 => ?_)
                                          · have hx3067 := hb3066
                                            have h := if_t h hx3067
                                            refine (Bool.eq_false_or_eq_true (decide (m2_9_0 = 19))).elim (fun hb3068 => ?_) (fun hb3068 => ?_)
                                            · have hx3069 := hb3068
                                              have h := if_t h hx3069
                                              refine W_y (s' := LS.mk 218 [(4, aB true)] []) mixed [qn0, qn (.val (.bool (decide ((bytesS w0_1006) = ([116] : List UInt8))))), qn0, qt0, qt0, qt0, qn (.dec true), qn0, qt0, qt0, qt0, qn0, qn0, qn0, qt0, qn (.dec true), qn0] ⟨[4], [], [], [], [], [], []⟩ (aC (str_eq_ob (P := Try.prog) 9 (bytesS w0_1006) ([116] : List UInt8)) (aC hx3067 (aC hx3067 (aC hx3067 (aC hx3067 (aC hx3069 (aC hx3069 (aC hx3069 (aC hx3069 (aC hx3069 aN)))))))))) (by kernel_rfl) ?_
                                              refine W_ret ?_
                                              exact kr [] _ _ (by kernel_rfl) (Option.some.inj h)
                                            · have hx3069 := hb3068
                                              have h := if_f h hx3069
                                              refine (Bool.eq_false_or_eq_true (decide ((bytesS w0_1006) = ([116, 101] : List UInt8)))).elim (fun hb3070 => ?_) (fun hb3070 => ?_)
                                              · have hx3071 := hb3070
                                                have h := if_t h hx3071
                                                refine W_y (s' := LS.mk 218 [(4, aB (decide (m2_9_0 = 20)))] []) mixed [qn0, qn (.val (.bool (decide ((bytesS w0_1006) = ([116] : List UInt8))))), qn0, qt0, qt0, qt0, qn (.dec true), qn0, qf0, qf (.val (.bool (decide ((bytesS w0_1006) = ([116, 101] : List UInt8))))), qf0, qt0, qt0, qt0, qf (.dec true), qn (.dec false), qn0] ⟨[4], [], [], [], [], [], []⟩ (aC (str_eq_ob (P := Try.prog) 9 (bytesS w0_1006) ([116] : List UInt8)) (aC hx3067 (aC hx3067 (aC hx3067 (aC hx3067 (aC hx3069 (aC hx3069 (aC (str_eq_ob (P := Try.prog) 9 (bytesS w0_1006) ([116, 101] : List UInt8)) (aC hx3069 (aC hx3071 (aC hx3071 (aC hx3071 (aC hx3069 (aC hx3071 (aC hx3069 aN))))))))))))))) (by kernel_rfl) ?_
                                                refine W_ret ?_
                                                exact kr [] _ _ (by kernel_rfl) (Option.some.inj h)
                                              · have hx3071 := hb3070
                                                have h := if_f h hx3071
                                                refine W_y (s' := LS.mk 218 [(4, aB false)] []) mixed [qn0, qn (.val (.bool (decide ((bytesS w0_1006) = ([116] : List UInt8))))), qn0, qt0, qt0, qt0, qn (.dec true), qn0, qf0, qf (.val (.bool (decide ((bytesS w0_1006) = ([116, 101] : List UInt8))))), qf0, qf0, qf0, qf0, qf (.dec false), qn (.dec false), qn0] ⟨[4], [], [], [], [], [], []⟩ (aC (str_eq_ob (P := Try.prog) 9 (bytesS w0_1006) ([116] : List UInt8)) (aC hx3067 (aC hx3067 (aC hx3067 (aC hx3067 (aC hx3069 (aC hx3069 (aC (str_eq_ob (P := Try.prog) 9 (bytesS w0_1006) ([116, 101] : List UInt8)) (aC hx3069 (aC hx3071 (aC hx3071 (aC hx3071 (aC hx3069 (aC hx3071 (aC hx3069 aN))))))))))))))) (by kernel_rfl) ?_
                                                refine W_ret ?_
                                                exact kr [] _ _ (by kernel_rfl) (Option.some.inj h)
                                          · have hx3067 := hb3066
                                            have h := if_f h hx3067
                                            refine (Bool.eq_false_or_eq_true (decide ((bytesS w0_1006) = ([116, 101] : List UInt8)))).elim (fun hb3072 => ?_) (fun hb3072 => ?_)
                                            · have hx3073 := hb3072
                                              have h := if_t h hx3073
                                              refine W_y (s' := LS.mk 218 [(4, aB (decide (m2_9_0 = 20)))] []) mixed [qn0, qn (.val (.bool (decide ((bytesS w0_1006) = ([116] : List UInt8))))), qn0, qf0, qf0, qf0, qn (.dec false), qn0, qn0, qn (.val (.bool (decide ((bytesS w0_1006) = ([116, 101] : List UInt8))))), qn0, qt0, qt0, qt0, qn (.dec true), qn0, qn0] ⟨[4], [], [], [], [], [], []⟩ (aC (str_eq_ob (P := Try.prog) 9 (bytesS w0_1006) ([116] : List UInt8)) (aC hx3067 (aC hx3067 (aC hx3067 (aC hx3067 (aC (str_eq_ob (P := Try.prog) 9 (bytesS w0_1006) ([116, 101] : List UInt8)) (aC hx3073 (aC hx3073 (aC hx3073 (aC hx3073 aN)))))))))) (by kernel_rfl) ?_
                                              refine W_ret ?_
                                              exact kr [] _ _ (by kernel_rfl) (Option.some.inj h)
                                            · have hx3073 := hb3072
                                              have h := if_f h hx3073
                                              refine W_y (s' := LS.mk 218 [(4, aB false)] []) mixed [qn0, qn (.val (.bool (decide ((bytesS w0_1006) = ([116] : List UInt8))))), qn0, qf0, qf0, qf0, qn (.dec false), qn0, qn0, qn (.val (.bool (decide ((bytesS w0_1006) = ([116, 101] : List UInt8))))), qn0, qf0, qf0, qf0, qn (.dec false), qn0, qn0] ⟨[4], [], [], [], [], [], []⟩ (aC (str_eq_ob (P := Try.prog) 9 (bytesS w0_1006) ([116] : List UInt8)) (aC hx3067 (aC hx3067 (aC hx3067 (aC hx3067 (aC (str_eq_ob (P := Try.prog) 9 (bytesS w0_1006) ([116, 101] : List UInt8)) (aC hx3073 (aC hx3073 (aC hx3073 (aC hx3073 aN)))))))))) (by kernel_rfl) ?_
                                              refine W_ret ?_
                                              exact kr [] _ _ (by kernel_rfl) (Option.some.inj h)
                                        · have hx3065 := hb3064
                                          have h := if_f h hx3065
                                          refine W_skip ?_
                                          refine W_seq ?_
                                          refine (Bool.eq_false_or_eq_true (decide ((bytesS w0_1006) = ([] : List UInt8)))).elim (fun hb3074 => ?_) (fun hb3074 => ?_)
                                          · have hx3075 := hb3074
                                            have h := if_t h hx3075
                                            refine (Bool.eq_false_or_eq_true (decide (x12_2.Kind ≥ 14))).elim (fun hb3076 => ?_) (fun hb3076 => ?_)
                                            · have hx3077 := hb3076
                                              have h := if_t h hx3077
                                              refine W_y (s' := LS.mk 218 [(4, aB (decide (x12_2.Kind ≤ 26)))] []) mixed [qn0, qn (.val (.bool (decide ((bytesS w0_1006) = ([] : List UInt8))))), qn0, qt0, qt0, qt (.ix (Int.toNat a1) (c_GApiNode x12_2)), qt0, qt0, qt0, qn (.dec true), qn0, qt0, qt0, qt (.ix (Int.toNat a1) (c_GApiNode x12_2)), qt0, qt0, qt0, qn (.dec true), qn0] ⟨[4], [], [], [], [], [], []⟩ (aC (str_eq_ob (P := Try.prog) 9 (bytesS w0_1006) ([] : List UInt8)) (aC hx3075 (aC hx3075 (aC hx3075 (aC (ix_obx c_GApiNode hx12_2) (aC hx3075 (aC hx3075 (aC hx3075 (aC hx3075 (aC hx3077 (aC hx3077 (aC hx3077 (aC (ix_obx c_GApiNode hx12_2) (aC hx3077 (aC hx3077 (aC hx3077 (aC hx3077 aN))))))))))))))))) (by kernel_rfl) ?_
                                              refine W_ret ?_
                                              exact kr [] _ _ (by kernel_rfl) (Option.some.inj h)
                                            · have hx3077 := hb3076
                                              have h := if_f h hx3077
                                              refine W_y (s' := LS.mk 218 [(4, aB false)] []) mixed [qn0, qn (.val (.bool (decide ((bytesS w0_1006) = ([] : List UInt8))))), qn0, qt0, qt0, qt (.ix (Int.toNat a1) (c_GApiNode x12_2)), qt0, qt0, qt0, qn (.dec true), qn0, qf0, qf0, qf0, qf0, qf0, qf0, qn (.dec false), qn0] ⟨[4], [], [], [], [], [], []⟩ (aC (str_eq_ob (P := Try.prog) 9 (bytesS w0_1006) ([] : List UInt8)) (aC hx3075 (aC hx3075 (aC hx3075 (aC (ix_obx c_GApiNode hx12_2) (aC hx3075 (aC hx3075 (aC hx3075 (aC hx3075 (aC hx3077 (aC hx3077 (aC hx3077 (aC hx3077 (aC hx3077 (aC hx3077 (aC hx3077 aN)))))))))))))))) (by kernel_rfl) ?_
                                              refine W_ret ?_
                                              exact kr [] _ _ (by kernel_rfl) (Option.some.inj h)
                                          · have hx3075 := hb3074
                                            have h := if_f h hx3075
                                            refine W_y (s' := LS.mk 218 [(4, aB false)] []) mixed [qn0, qn (.val (.bool (decide ((bytesS w0_1006) = ([] : List UInt8))))), qn0, qf0, qf0, qf0, qf0, qf0, qf0, qn (.dec false), qn0, qn0, qn0, qn0, qn0, qn0, qn0, qn0, qn0] ⟨[4], [], [], [], [], [], []⟩ (aC (str_eq_ob (P := Try.prog) 9 (bytesS w0_1006) ([] : List UInt8)) (aC hx3075 (aC hx3075 (aC hx3075 (aC hx3075 (aC hx3075 (aC hx3075 (aC hx3075 aN)))))))) (by kernel_rfl) ?_
                                            refine W_ret ?_
                                            exact kr [] _ _ (by kernel_rfl) (Option.some.inj h)
set_option maxRecDepth 100000 in
theorem hindcastref05_family_j1_ok (n : Nat)  (a0 : (List GApiNode)) (a1 : Int) (r1_2 : (List Int)) (w0_1006 : (List Int)) (r_ : Bool) (Q' : Exit → St → Prop) (kr : ∀ (ns : List (Nat × Nat × Nat)) (s : LS) (x : Bool), retX Try.prog ns [.tmp 4] s = some (aB x) → x = r_ → Q' .ret s.st)  (h : recN hindcastref05_family_B n (.j1 a0 a1 r1_2 w0_1006) = some r_) : W Try.prog (subC (bodyC Try.prog 34) [1, 1, 1, 1]) (LS.mk 218 [(0, .t (.sl 6 (a0.map c_GApiNode))), (1, aI .i64 a1), (5, .ref 1005), (6, .ref 1006)] [(1005, some (.row 3 1 (r1_2.map c_i64))), (1006, some (.row 5 1 (w0_1006.map c_u8)))]).st Q' := by
  cases n with
  | zero => cases h
  | succ m =>
  have hlt : m < m + 1 := Nat.lt_succ_self m
  replace h : hindcastref05_family_j1_b (recN hindcastref05_family_B m) a0 a1 r1_2 w0_1006 = some r_ := h
  unfold hindcastref05_family_j1_b at h
  refine W_seq ?_
  obtain ⟨hd2001, h⟩ := ite_ok h
  refine W_y (s' := LS.mk 218 [(0, .t (.sl 6 (a0.map c_GApiNode))), (1, aI .i64 a1), (5, .ref 1005), (8, aS (bytesS w0_1006))] [(1005, some (.row 3 1 (r1_2.map c_i64)))]) mixed [qn0, qn (.quiet (aS (bytesS w0_1006))), qn0] ⟨[0, 1, 5, 8], [], [], [], [(1005, 1005)], [], []⟩ (aC (show Quiet Try.prog (opAt (subC (bodyC Try.prog 34) [1, 1, 1, 1, 0]) 1) [.t (.sl 1 (w0_1006.map c_u8))] (aS (bytesS w0_1006)) from bytesS_ob (e := 5) (by rfl) (by kernel_rfl) (by kernel_rfl) (by kernel_rfl) c_u8 rfl hd2001) aN) (by kernel_rfl) ?_
  refine W_seq ?_
  refine W_y (s' := LS.mk 218 [(0, .t (.sl 6 (a0.map c_GApiNode))), (1, aI .i64 a1), (5, .ref 1005), (8, aS (bytesS w0_1006)), (9, .ptr 9 0)] [(9, some (.box 32 [aI .u8 0, aI .i64 0, aI .i64 0, aI .i64 0, aI .i64 0, aS ([] : List UInt8)])), (1005, some (.row 3 1 (r1_2.map c_i64)))]) mixed [qn0, qn0, qn0] ⟨[0, 1, 5, 8, 9], [], [9], [], [(1005, 1005)], [], []⟩ aN (by kernel_rfl) ?_
  refine W_seq ?_
  refine W_seq ?_
  refine W_y (s' := LS.mk 218 [(0, .t (.sl 6 (a0.map c_GApiNode))), (1, aI .i64 a1), (5, .ref 1005), (8, aS (bytesS w0_1006)), (9, .ptr 9 0), (37, aB (decide ((r1_2.length : Int) > 0)))] [(9, some (.box 32 [aI .u8 0, aI .i64 0, aI .i64 0, aI .i64 0, aI .i64 0, aS ([] : List UInt8)])), (1005, some (.row 3 1 (r1_2.map c_i64)))]) mixed [qn0, qn (.len r1_2.length), qn0] ⟨[0, 1, 5, 8, 9, 37], [], [9], [], [(1005, 1005)], [], []⟩ (aC (len_obx c_i64 r1_2) aN) (by kernel_rfl) ?_
  refine W_cond (decide ((r1_2.length : Int) > 0)) (by kernel_rfl) (fun hb2002 => ?_) (fun hb2002 => ?_)
  · have hx2003 := hb2002
    have h := if_t h hx2003
    obtain ⟨x11_2, hx11_2, h⟩ := bind_ok h
    obtain ⟨x11_4, hx11_4, h⟩ := bind_ok h
    refine W_y (s' := LS.mk 218 [(0, .t (.sl 6 (a0.map c_GApiNode))), (1, aI .i64 a1), (8, aS (bytesS w0_1006)), (9, .ptr 9 0)] [(9, some (.box 32 [aI .u8 x11_4.Kind, aI .i64 x11_4.Line, aI .i64 x11_4.Col, aI .i64 x11_4.Size, aI .i64 x11_4.Num, aS x11_4.Text]))]) mixed [qn0, qn0, qn (.ix (Int.toNat 0) (c_i64 x11_2)), qn (.ix (Int.toNat 0) (c_i64 x11_2)), qn (.ix (Int.toNat x11_2) (c_GApiNode x11_4)), qn0, qn0] ⟨[0, 1, 8, 9], [], [9], [], [], [], []⟩ (aC (ix_obx c_i64 hx11_2) (aC (el_obx c_i64 hx11_2) (aC (ix_obx c_GApiNode hx11_4) aN))) (by kernel_rfl) ?_
    exact W_conv (s' := LS.mk 218 [(0, .t (.sl 6 (a0.map c_GApiNode))), (1, aI .i64 a1), (8, aS (bytesS w0_1006)), (9, .ptr 9 0)] [(9, some (.box 32 [aI .u8 x11_4.Kind, aI .i64 x11_4.Line, aI .i64 x11_4.Col, aI .i64 x11_4.Size, aI .i64 x11_4.Num, aS x11_4.Text]))]) ⟨[0, 1, 8, 9], [], [9], [], [], [], []⟩ (by kernel_rfl) (hindcastref05_family_j2_ok m a0 a1 w0_1006 x11_4.Kind x11_4.Line x11_4.Col x11_4.Size x11_4.Num x11_4.Text r_ _ kr h)
  · have hx2003 := hb2002
    have h := if_f h hx2003
    refine W_skip ?_
    exact W_conv (s' := LS.mk 218 [(0, .t (.sl 6 (a0.map c_GApiNode))), (1, aI .i64 a1), (8, aS (bytesS w0_1006)), (9, .ptr 9 0)] [(9, some (.box 32 [aI .u8 0, aI .i64 0, aI .i64 0, aI .i64 0, aI .i64 0, aS ([] : List UInt8)]))]) ⟨[0, 1, 8, 9], [], [9], [], [], [], []⟩ (by kernel_rfl) (hindcastref05_family_j2_ok m a0 a1 w0_1006 0 0 0 0 0 ([] : List UInt8) r_ _ kr h)
noncomputable def hindcastref05_family (a0 : (List GApiNode)) (a1 : Int) : Option Bool :=
  ((hindcastref05_Kids a0 a1).bind fun (r1_2 : (List Int)) => hindcastref05_family_l0 a0 a1 r1_2 0 ([] : List Int))
set_option maxRecDepth 100000 in
theorem hindcastref05_family_ok {a0 : (List GApiNode)} {a1 : Int} {r_ : Bool} (h : hindcastref05_family a0 a1 = some r_) : R_hindcastref05_family a0 a1 r_ := by
  unfold hindcastref05_family at h
  refine fn_pureX (fn := Try.f34) (by kernel_rfl) (c := subC (bodyC Try.prog 34) []) (by kernel_rfl) (by kernel_rfl) (Nat.le_of_ble_eq_true (by kernel_rfl)) ?_
  generalize hQ' : retQ Try.prog Try.f34 (aB r_) = Q'
  have kr : ∀ (ns : List (Nat × Nat × Nat)) (s : LS) (x : Bool), retX Try.prog ns [.tmp 4] s = some (aB x) → x = r_ → Q' .ret s.st := by subst hQ'; intro ns s x hx hq; subst hq; exact ret_ok (fn := Try.f34) ns hx
  change W Try.prog _ (LS.mk 218 [(0, .t (.sl 6 (a0.map c_GApiNode))), (1, aI .i64 a1)] []).st Q'
  refine W_seq ?_
  refine W_y (s' := LS.mk 218 [(0, .t (.sl 6 (a0.map c_GApiNode))), (1, aI .i64 a1)] []) mixed [qn0] ⟨[0, 1], [], [], [], [], [], []⟩ aN (by kernel_rfl) ?_
  refine W_seq ?_
  obtain ⟨r1_2, hr1_2, h⟩ := bind_ok h
  have hr1_2 := hindcastref05_Kids_ok hr1_2
  refine W_y (s' := LS.mk 218 [(0, .t (.sl 6 (a0.map c_GApiNode))), (1, aI .i64 a1), (5, .ref 1005)] [(1005, some (.row 3 1 (r1_2.map c_i64)))]) mixed [qn0, qn0, qn (.io ⟨[], [], [], [], [], [], [(800000, 13)]⟩ (.ref 800000) [(800000, .row 3 1 (r1_2.map c_i64))]), qn0] ⟨[0, 1, 5], [], [], [], [(13, 1005)], [], []⟩ (aC hr1_2 aN) (by kernel_rfl) ?_
  refine W_seq ?_
  refine W_y (s' := LS.mk 218 [(0, .t (.sl 6 (a0.map c_GApiNode))), (1, aI .i64 a1), (5, .ref 1005), (6, .ref 1006)] [(1006, some (.row 5 1 (([] : List Int).map c_u8))), (1005, some (.row 3 1 (r1_2.map c_i64)))]) mixed [qn0, qn0] ⟨[0, 1, 5, 6], [], [], [], [(14, 1006), (1005, 1005)], [], []⟩ aN (by kernel_rfl) ?_
  refine W_seq ?_
  refine W_seq ?_
  refine W_y (s' := LS.mk 218 [(0, .t (.sl 6 (a0.map c_GApiNode))), (1, aI .i64 a1), (5, .ref 1005), (6, .ref 1006), (16, aI .i64 (r1_2.length : Int)), (17, aI .i64 0)] [(1005, some (.row 3 1 (r1_2.map c_i64))), (1006, some (.row 5 1 (([] : List Int).map c_u8)))]) mixed [qn0, qn (.len r1_2.length), qn0] ⟨[0, 1, 5, 6, 16, 17], [], [], [], [(1005, 1005), (1006, 1006)], [], []⟩ (aC (len_obx c_i64 r1_2) aN) (by kernel_rfl) ?_
  refine W_block ?_
  obtain ⟨n, h⟩ := fix_rec h
  exact W_conv (s' := LS.mk 218 [(0, .t (.sl 6 (a0.map c_GApiNode))), (1, aI .i64 a1), (5, .ref 1005), (6, .ref 1006), (16, aI .i64 (r1_2.length : Int)), (17, aI .i64 0)] [(1005, some (.row 3 1 (r1_2.map c_i64))), (1006, some (.row 5 1 (([] : List Int).map c_u8)))]) ⟨[0, 1, 5, 6, 16, 17], [], [], [], [(1005, 1005), (1006, 1006)], [], []⟩ (by kernel_rfl) (hindcastref05_family_l0_ok n a0 a1 r1_2 0 ([] : List Int) r_ _ kr (fun q1 hq1 w0_1006 s' h hf => W_pre hf (hindcastref05_family_j1_ok q1 a0 a1 r1_2 w0_1006 r_ _ kr h)) h)
end Go.Proofs.Ytahioekdpndohaa
