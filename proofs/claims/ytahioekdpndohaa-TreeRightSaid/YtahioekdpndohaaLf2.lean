/- Functions of the program, lifted. -/
import Derived.Test.YtahioekdpndohaaLf1
namespace Go.Proofs.Ytahioekdpndohaa
open Go.RowKit
set_option linter.unusedVariables false
set_option maxHeartbeats 4000000
def R_tree_look_all (a0 : GTreeLook) (a1 : Fv35) (r : Bool) : Prop := FnP Try.prog 30 [e_GTreeLook a0, .t (a1.t)] (aB r)
inductive tree_look_all_C where
  | l0 (a1 : Fv35) (a0 : GTreeLook) (v0_10_0 : Int)
  | j1 
abbrev tree_look_all_C_T : tree_look_all_C → Type := fun _ => Bool
noncomputable def tree_look_all_l0_b (g : (i : tree_look_all_C) → Option (tree_look_all_C_T i)) (a1 : Fv35) (a0 : GTreeLook) (v0_10_0 : Int) : Option Bool :=
  (if v0_10_0 < (a0.kids_.length : Int) then ((getI a0.kids_ v0_10_0).bind fun (x3_0 : GApiNode) => ((a1.run x3_0).bind fun (r4_2 : Bool) => (if r4_2 = true then g (.l0 a1 a0 (w64 (v0_10_0 + 1))) else (some false)))) else g (.j1))
noncomputable def tree_look_all_j1_b (g : (i : tree_look_all_C) → Option (tree_look_all_C_T i))  : Option Bool :=
  (some true)
noncomputable def tree_look_all_B (g : (i : tree_look_all_C) → Option (tree_look_all_C_T i)) : (i : tree_look_all_C) → Option (tree_look_all_C_T i)
  | .l0 a1 a0 v0_10_0 => tree_look_all_l0_b g a1 a0 v0_10_0
  | .j1  => tree_look_all_j1_b g 
theorem tree_look_all_B_fin (i : tree_look_all_C) : Fin1 (fun g => tree_look_all_B g i) := by
  cases i with
  | l0 a1 a0 v0_10_0 => show Fin1 (fun g => tree_look_all_l0_b g a1 a0 v0_10_0); unfold tree_look_all_l0_b; repeat (first | refine fin_bind ?_ (fun _ => ?_) | refine fin_ite ?_ ?_ | exact fin_ask _ | exact fin_const _)
  | j1  => show Fin1 (fun g => tree_look_all_j1_b g ); unfold tree_look_all_j1_b; repeat (first | refine fin_bind ?_ (fun _ => ?_) | refine fin_ite ?_ ?_ | exact fin_ask _ | exact fin_const _)
noncomputable def tree_look_all_l0 (a1 : Fv35) (a0 : GTreeLook) (v0_10_0 : Int) : Option Bool := fixD tree_look_all_B (.l0 a1 a0 v0_10_0)
noncomputable def tree_look_all_j1  : Option Bool := fixD tree_look_all_B (.j1 )
theorem tree_look_all_l0_eq (a1 : Fv35) (a0 : GTreeLook) (v0_10_0 : Int) : tree_look_all_l0 a1 a0 v0_10_0 =
  (if v0_10_0 < (a0.kids_.length : Int) then ((getI a0.kids_ v0_10_0).bind fun (x3_0 : GApiNode) => ((a1.run x3_0).bind fun (r4_2 : Bool) => (if r4_2 = true then tree_look_all_l0 a1 a0 (w64 (v0_10_0 + 1)) else (some false)))) else tree_look_all_j1) := fix_eq tree_look_all_B_fin _
theorem tree_look_all_j1_eq  : tree_look_all_j1  =
  (some true) := fix_eq tree_look_all_B_fin _
set_option maxRecDepth 100000 in
theorem tree_look_all_l0_ok (n : Nat)  (a1 : Fv35) (a0 : GTreeLook) (v0_10_0 : Int) (r_ : Bool) (Q' : Exit → St → Prop) (kr : ∀ (ns : List (Nat × Nat × Nat)) (s : LS) (x : Bool), retX Try.prog ns [.tmp 4] s = some (aB x) → x = r_ → Q' .ret s.st) (k_x_0 : ∀ (q : Nat), q < n → ∀  (s' : LS), recN tree_look_all_B q (.j1 ) = some r_ → Fits s'.st (LS.mk 19 [] []).st → Q' (.exit 0) s'.st) (h : recN tree_look_all_B n (.l0 a1 a0 v0_10_0) = some r_) : W Try.prog (subC (bodyC Try.prog 30) [1, 0, 1, 0]) (LS.mk 19 [(1, .t (a1.t)), (8, .t (.sl 6 (a0.kids_.map c_GApiNode))), (9, aI .i64 (a0.kids_.length : Int)), (10, aI .i64 v0_10_0)] []).st Q' := by
  refine W_fix (σ := Int) (fun m x_ => m ≤ n ∧ recN tree_look_all_B m (.l0 a1 a0 x_) = some r_) (fun x_ => LS.mk 19 [(1, .t (a1.t)), (8, .t (.sl 6 (a0.kids_.map c_GApiNode))), (9, aI .i64 (a0.kids_.length : Int)), (10, aI .i64 x_)] []) (fun x hx => by cases hx.2) (fun _ _ => rfl) ?_ n (v0_10_0) ⟨Nat.le_refl _, h⟩
  clear h
  rintro m v0_10_0 ⟨hlt, h⟩
  replace h : tree_look_all_l0_b (recN tree_look_all_B m) a1 a0 v0_10_0 = some r_ := h
  unfold tree_look_all_l0_b at h
  refine W_seq ?_
  refine W_y (s' := LS.mk 19 [(1, .t (a1.t)), (8, .t (.sl 6 (a0.kids_.map c_GApiNode))), (9, aI .i64 (a0.kids_.length : Int)), (10, aI .i64 v0_10_0), (11, aB (decide (v0_10_0 < (a0.kids_.length : Int))))] []) mixed [qn0] ⟨[1, 8, 9, 10, 11], [], [], [], [], [], []⟩ aN (by kernel_rfl) ?_
  refine W_seq ?_
  refine W_cond (decide (v0_10_0 < (a0.kids_.length : Int))) (by kernel_rfl) (fun hb1001 => ?_) (fun hb1001 => ?_)
  · have hx1002 := hb1001
    have h := if_t h hx1002
    refine W_skip ?_
    refine W_seq ?_
    refine W_block ?_
    refine W_seq ?_
    obtain ⟨x3_0, hx3_0, h⟩ := bind_ok h
    refine W_y (s' := LS.mk 19 [(1, .t (a1.t)), (6, .ptr 6 0), (8, .t (.sl 6 (a0.kids_.map c_GApiNode))), (9, aI .i64 (a0.kids_.length : Int)), (10, aI .i64 v0_10_0)] [(6, some (.box 32 [aI .u8 x3_0.Kind, aI .i64 x3_0.Line, aI .i64 x3_0.Col, aI .i64 x3_0.Size, aI .i64 x3_0.Num, aS x3_0.Text]))]) mixed [qn (.ix (Int.toNat v0_10_0) (c_GApiNode x3_0)), qn0, qn0, qn0] ⟨[1, 6, 8, 9, 10], [], [6], [], [], [], []⟩ (aC (ix_obx c_GApiNode hx3_0) aN) (by kernel_rfl) ?_
    refine W_seq ?_
    obtain ⟨r4_2, hr4_2, h⟩ := bind_ok h
    refine W_y (s' := LS.mk 19 [(1, .t (a1.t)), (8, .t (.sl 6 (a0.kids_.map c_GApiNode))), (9, aI .i64 (a0.kids_.length : Int)), (10, aI .i64 v0_10_0), (17, aB (!r4_2))] []) mixed [qn0, qn0, qn (.callv (aB r4_2)), qn0] ⟨[1, 8, 9, 10, 17], [], [], [], [], [], []⟩ (aC (a1.ok _ _ hr4_2) aN) (by kernel_rfl) ?_
    refine W_cond (!r4_2) (by kernel_rfl) (fun hb1003 => ?_) (fun hb1003 => ?_)
    · have hx1004 : r4_2 = false := (bnot_t hb1003)
      have h := ib_f h hx1004
      refine W_seq ?_
      refine W_y (s' := LS.mk 19 [(4, aB false)] []) mixed [qn0] ⟨[4], [], [], [], [], [], []⟩ aN (by kernel_rfl) ?_
      refine W_ret ?_
      exact kr [] _ _ (by kernel_rfl) (Option.some.inj h)
    · have hx1004 : r4_2 = true := (bnot_f hb1003)
      have h := ib_t h hx1004
      refine W_skip ?_
      refine W_y (s' := LS.mk 19 [(1, .t (a1.t)), (8, .t (.sl 6 (a0.kids_.map c_GApiNode))), (9, aI .i64 (a0.kids_.length : Int)), (10, aI .i64 (w64 (v0_10_0 + 1)))] []) mixed [qn0, qn0] ⟨[1, 8, 9, 10], [], [], [], [], [], []⟩ aN (by kernel_rfl) ?_
      exact ⟨m, ((w64 (v0_10_0 + 1))), Nat.le_refl _, ⟨Nat.le_of_lt hlt, h⟩, convX_fits (v := ⟨[1, 8, 9, 10], [], [], [], [], [], []⟩) (s' := LS.mk 19 [(1, .t (a1.t)), (8, .t (.sl 6 (a0.kids_.map c_GApiNode))), (9, aI .i64 (a0.kids_.length : Int)), (10, aI .i64 (w64 (v0_10_0 + 1)))] []) (by kernel_rfl)⟩
  · have hx1002 := hb1001
    have h := if_f h hx1002
    refine W_exit ?_
    exact k_x_0 m hlt  _ h (convX_fits (v := ⟨[], [], [], [], [], [], []⟩) (s' := LS.mk 19 [] []) (by kernel_rfl))
set_option maxRecDepth 100000 in
theorem tree_look_all_j1_ok (n : Nat)   (r_ : Bool) (Q' : Exit → St → Prop) (kr : ∀ (ns : List (Nat × Nat × Nat)) (s : LS) (x : Bool), retX Try.prog ns [.tmp 4] s = some (aB x) → x = r_ → Q' .ret s.st)  (h : recN tree_look_all_B n (.j1 ) = some r_) : W Try.prog (subC (bodyC Try.prog 30) [1, 1]) (LS.mk 19 [] []).st Q' := by
  cases n with
  | zero => cases h
  | succ m =>
  have hlt : m < m + 1 := Nat.lt_succ_self m
  replace h : tree_look_all_j1_b (recN tree_look_all_B m)  = some r_ := h
  unfold tree_look_all_j1_b at h
  refine W_seq ?_
  refine W_y (s' := LS.mk 19 [(4, aB true)] []) mixed [qn0] ⟨[4], [], [], [], [], [], []⟩ aN (by kernel_rfl) ?_
  refine W_ret ?_
  exact kr [] _ _ (by kernel_rfl) (Option.some.inj h)
noncomputable def tree_look_all (a0 : GTreeLook) (a1 : Fv35) : Option Bool :=
  tree_look_all_l0 a1 a0 0
set_option maxRecDepth 100000 in
theorem tree_look_all_ok {a0 : GTreeLook} {a1 : Fv35} {r_ : Bool} (h : tree_look_all a0 a1 = some r_) : R_tree_look_all a0 a1 r_ := by
  unfold tree_look_all at h
  refine fn_pureX (fn := Try.f30) (by kernel_rfl) (c := subC (bodyC Try.prog 30) []) (by kernel_rfl) (by kernel_rfl) (Nat.le_of_ble_eq_true (by kernel_rfl)) ?_
  generalize hQ' : retQ Try.prog Try.f30 (aB r_) = Q'
  have kr : ∀ (ns : List (Nat × Nat × Nat)) (s : LS) (x : Bool), retX Try.prog ns [.tmp 4] s = some (aB x) → x = r_ → Q' .ret s.st := by subst hQ'; intro ns s x hx hq; subst hq; exact ret_ok (fn := Try.f30) ns hx
  change W Try.prog _ (LS.mk 19 [(0, e_GTreeLook a0), (1, .t (a1.t))] []).st Q'
  refine W_seq ?_
  refine W_y (s' := LS.mk 19 [(1, .t (a1.t)), (2, .ptr 2 0)] [(2, some (.box 37 [aI .u8 a0.x_.Kind, aI .i64 a0.x_.Line, aI .i64 a0.x_.Col, aI .i64 a0.x_.Size, aI .i64 a0.x_.Num, aS a0.x_.Text, .t (.sl 6 (a0.kids_.map c_GApiNode))]))]) mixed [qn0, qn0] ⟨[1, 2], [], [2], [], [], [], []⟩ aN (by kernel_rfl) ?_
  refine W_seq ?_
  refine W_seq ?_
  refine W_y (s' := LS.mk 19 [(1, .t (a1.t)), (8, .t (.sl 6 (a0.kids_.map c_GApiNode))), (9, aI .i64 (a0.kids_.length : Int)), (10, aI .i64 0)] []) mixed [qn0, qn0, qn (.len a0.kids_.length), qn0] ⟨[1, 8, 9, 10], [], [], [], [], [], []⟩ (aC (len_obx c_GApiNode a0.kids_) aN) (by kernel_rfl) ?_
  refine W_block ?_
  obtain ⟨n, h⟩ := fix_rec h
  exact W_conv (s' := LS.mk 19 [(1, .t (a1.t)), (8, .t (.sl 6 (a0.kids_.map c_GApiNode))), (9, aI .i64 (a0.kids_.length : Int)), (10, aI .i64 0)] []) ⟨[1, 8, 9, 10], [], [], [], [], [], []⟩ (by kernel_rfl) (tree_look_all_l0_ok n a1 a0 0 r_ _ kr (fun q1 hq1  s' h hf => W_pre hf (tree_look_all_j1_ok q1 r_ _ kr h)) h)
def R_tree_of_1 (a0 : GApiNode) (a1 : (List Int)) (r : Bool) : Prop := FnP Try.prog 41 [e_GApiNode a0, .t (.fp [.sl 1 (a1.map c_u8)])] (aB r)
inductive tree_of_1_C where
  | l0 (a1 : (List Int)) (v0_8_0 : Int) (a0 : GApiNode)
  | j1 
abbrev tree_of_1_C_T : tree_of_1_C → Type := fun _ => Bool
noncomputable def tree_of_1_l0_b (g : (i : tree_of_1_C) → Option (tree_of_1_C_T i)) (a1 : (List Int)) (v0_8_0 : Int) (a0 : GApiNode) : Option Bool :=
  (if v0_8_0 < (a1.length : Int) then ((getI a1 v0_8_0).bind fun (x3_0 : Int) => (if a0.Kind = x3_0 then (some true) else g (.l0 a1 (w64 (v0_8_0 + 1)) a0))) else g (.j1))
noncomputable def tree_of_1_j1_b (g : (i : tree_of_1_C) → Option (tree_of_1_C_T i))  : Option Bool :=
  (some false)
noncomputable def tree_of_1_B (g : (i : tree_of_1_C) → Option (tree_of_1_C_T i)) : (i : tree_of_1_C) → Option (tree_of_1_C_T i)
  | .l0 a1 v0_8_0 a0 => tree_of_1_l0_b g a1 v0_8_0 a0
  | .j1  => tree_of_1_j1_b g 
theorem tree_of_1_B_fin (i : tree_of_1_C) : Fin1 (fun g => tree_of_1_B g i) := by
  cases i with
  | l0 a1 v0_8_0 a0 => show Fin1 (fun g => tree_of_1_l0_b g a1 v0_8_0 a0); unfold tree_of_1_l0_b; repeat (first | refine fin_bind ?_ (fun _ => ?_) | refine fin_ite ?_ ?_ | exact fin_ask _ | exact fin_const _)
  | j1  => show Fin1 (fun g => tree_of_1_j1_b g ); unfold tree_of_1_j1_b; repeat (first | refine fin_bind ?_ (fun _ => ?_) | refine fin_ite ?_ ?_ | exact fin_ask _ | exact fin_const _)
noncomputable def tree_of_1_l0 (a1 : (List Int)) (v0_8_0 : Int) (a0 : GApiNode) : Option Bool := fixD tree_of_1_B (.l0 a1 v0_8_0 a0)
noncomputable def tree_of_1_j1  : Option Bool := fixD tree_of_1_B (.j1 )
theorem tree_of_1_l0_eq (a1 : (List Int)) (v0_8_0 : Int) (a0 : GApiNode) : tree_of_1_l0 a1 v0_8_0 a0 =
  (if v0_8_0 < (a1.length : Int) then ((getI a1 v0_8_0).bind fun (x3_0 : Int) => (if a0.Kind = x3_0 then (some true) else tree_of_1_l0 a1 (w64 (v0_8_0 + 1)) a0)) else tree_of_1_j1) := fix_eq tree_of_1_B_fin _
theorem tree_of_1_j1_eq  : tree_of_1_j1  =
  (some false) := fix_eq tree_of_1_B_fin _
set_option maxRecDepth 100000 in
theorem tree_of_1_l0_ok (n : Nat)  (a1 : (List Int)) (v0_8_0 : Int) (a0 : GApiNode) (r_ : Bool) (Q' : Exit → St → Prop) (kr : ∀ (ns : List (Nat × Nat × Nat)) (s : LS) (x : Bool), retX Try.prog ns [.tmp 3] s = some (aB x) → x = r_ → Q' .ret s.st) (k_x_0 : ∀ (q : Nat), q < n → ∀  (s' : LS), recN tree_of_1_B q (.j1 ) = some r_ → Fits s'.st (LS.mk 17 [] []).st → Q' (.exit 0) s'.st) (h : recN tree_of_1_B n (.l0 a1 v0_8_0 a0) = some r_) : W Try.prog (subC (bodyC Try.prog 41) [1, 0, 1, 0]) (LS.mk 17 [(2, .ptr 2 0), (6, .t (.sl 1 (a1.map c_u8))), (7, aI .i64 (a1.length : Int)), (8, aI .i64 v0_8_0)] [(2, some (.box 32 [aI .u8 a0.Kind, aI .i64 a0.Line, aI .i64 a0.Col, aI .i64 a0.Size, aI .i64 a0.Num, aS a0.Text]))]).st Q' := by
  refine W_fix (σ := Int) (fun m x_ => m ≤ n ∧ recN tree_of_1_B m (.l0 a1 x_ a0) = some r_) (fun x_ => LS.mk 17 [(2, .ptr 2 0), (6, .t (.sl 1 (a1.map c_u8))), (7, aI .i64 (a1.length : Int)), (8, aI .i64 x_)] [(2, some (.box 32 [aI .u8 a0.Kind, aI .i64 a0.Line, aI .i64 a0.Col, aI .i64 a0.Size, aI .i64 a0.Num, aS a0.Text]))]) (fun x hx => by cases hx.2) (fun _ _ => rfl) ?_ n (v0_8_0) ⟨Nat.le_refl _, h⟩
  clear h
  rintro m v0_8_0 ⟨hlt, h⟩
  replace h : tree_of_1_l0_b (recN tree_of_1_B m) a1 v0_8_0 a0 = some r_ := h
  unfold tree_of_1_l0_b at h
  refine W_seq ?_
  refine W_y (s' := LS.mk 17 [(2, .ptr 2 0), (6, .t (.sl 1 (a1.map c_u8))), (7, aI .i64 (a1.length : Int)), (8, aI .i64 v0_8_0), (9, aB (decide (v0_8_0 < (a1.length : Int))))] [(2, some (.box 32 [aI .u8 a0.Kind, aI .i64 a0.Line, aI .i64 a0.Col, aI .i64 a0.Size, aI .i64 a0.Num, aS a0.Text]))]) mixed [qn0] ⟨[2, 6, 7, 8, 9], [], [2], [], [], [], []⟩ aN (by kernel_rfl) ?_
  refine W_seq ?_
  refine W_cond (decide (v0_8_0 < (a1.length : Int))) (by kernel_rfl) (fun hb1001 => ?_) (fun hb1001 => ?_)
  · have hx1002 := hb1001
    have h := if_t h hx1002
    refine W_skip ?_
    refine W_seq ?_
    refine W_block ?_
    refine W_seq ?_
    obtain ⟨x3_0, hx3_0, h⟩ := bind_ok h
    refine W_y (s' := LS.mk 17 [(2, .ptr 2 0), (5, aI .u8 x3_0), (6, .t (.sl 1 (a1.map c_u8))), (7, aI .i64 (a1.length : Int)), (8, aI .i64 v0_8_0)] [(2, some (.box 32 [aI .u8 a0.Kind, aI .i64 a0.Line, aI .i64 a0.Col, aI .i64 a0.Size, aI .i64 a0.Num, aS a0.Text]))]) mixed [qn (.ix (Int.toNat v0_8_0) (c_u8 x3_0)), qn0, qn0] ⟨[2, 5, 6, 7, 8], [], [2], [], [], [], []⟩ (aC (ix_obx c_u8 hx3_0) aN) (by kernel_rfl) ?_
    refine W_seq ?_
    refine W_y (s' := LS.mk 17 [(2, .ptr 2 0), (6, .t (.sl 1 (a1.map c_u8))), (7, aI .i64 (a1.length : Int)), (8, aI .i64 v0_8_0), (15, aB (decide (a0.Kind = x3_0)))] [(2, some (.box 32 [aI .u8 a0.Kind, aI .i64 a0.Line, aI .i64 a0.Col, aI .i64 a0.Size, aI .i64 a0.Num, aS a0.Text]))]) mixed [qn0, qn0, qn0, qn0] ⟨[2, 6, 7, 8, 15], [], [2], [], [], [], []⟩ aN (by kernel_rfl) ?_
    refine W_cond (decide (a0.Kind = x3_0)) (by kernel_rfl) (fun hb1003 => ?_) (fun hb1003 => ?_)
    · have hx1004 := hb1003
      have h := if_t h hx1004
      refine W_seq ?_
      refine W_y (s' := LS.mk 17 [(3, aB true)] []) mixed [qn0] ⟨[3], [], [], [], [], [], []⟩ aN (by kernel_rfl) ?_
      refine W_ret ?_
      exact kr [] _ _ (by kernel_rfl) (Option.some.inj h)
    · have hx1004 := hb1003
      have h := if_f h hx1004
      refine W_skip ?_
      refine W_y (s' := LS.mk 17 [(2, .ptr 2 0), (6, .t (.sl 1 (a1.map c_u8))), (7, aI .i64 (a1.length : Int)), (8, aI .i64 (w64 (v0_8_0 + 1)))] [(2, some (.box 32 [aI .u8 a0.Kind, aI .i64 a0.Line, aI .i64 a0.Col, aI .i64 a0.Size, aI .i64 a0.Num, aS a0.Text]))]) mixed [qn0, qn0] ⟨[2, 6, 7, 8], [], [2], [], [], [], []⟩ aN (by kernel_rfl) ?_
      exact ⟨m, ((w64 (v0_8_0 + 1))), Nat.le_refl _, ⟨Nat.le_of_lt hlt, h⟩, convX_fits (v := ⟨[2, 6, 7, 8], [], [2], [], [], [], []⟩) (s' := LS.mk 17 [(2, .ptr 2 0), (6, .t (.sl 1 (a1.map c_u8))), (7, aI .i64 (a1.length : Int)), (8, aI .i64 (w64 (v0_8_0 + 1)))] [(2, some (.box 32 [aI .u8 a0.Kind, aI .i64 a0.Line, aI .i64 a0.Col, aI .i64 a0.Size, aI .i64 a0.Num, aS a0.Text]))]) (by kernel_rfl)⟩
  · have hx1002 := hb1001
    have h := if_f h hx1002
    refine W_exit ?_
    exact k_x_0 m hlt  _ h (convX_fits (v := ⟨[], [], [], [], [], [], []⟩) (s' := LS.mk 17 [] []) (by kernel_rfl))
set_option maxRecDepth 100000 in
theorem tree_of_1_j1_ok (n : Nat)   (r_ : Bool) (Q' : Exit → St → Prop) (kr : ∀ (ns : List (Nat × Nat × Nat)) (s : LS) (x : Bool), retX Try.prog ns [.tmp 3] s = some (aB x) → x = r_ → Q' .ret s.st)  (h : recN tree_of_1_B n (.j1 ) = some r_) : W Try.prog (subC (bodyC Try.prog 41) [1, 1]) (LS.mk 17 [] []).st Q' := by
  cases n with
  | zero => cases h
  | succ m =>
  have hlt : m < m + 1 := Nat.lt_succ_self m
  replace h : tree_of_1_j1_b (recN tree_of_1_B m)  = some r_ := h
  unfold tree_of_1_j1_b at h
  refine W_seq ?_
  refine W_y (s' := LS.mk 17 [(3, aB false)] []) mixed [qn0] ⟨[3], [], [], [], [], [], []⟩ aN (by kernel_rfl) ?_
  refine W_ret ?_
  exact kr [] _ _ (by kernel_rfl) (Option.some.inj h)
noncomputable def tree_of_1 (a0 : GApiNode) (a1 : (List Int)) : Option Bool :=
  tree_of_1_l0 a1 0 a0
set_option maxRecDepth 100000 in
theorem tree_of_1_ok {a0 : GApiNode} {a1 : (List Int)} {r_ : Bool} (h : tree_of_1 a0 a1 = some r_) : R_tree_of_1 a0 a1 r_ := by
  unfold tree_of_1 at h
  refine fn_pureX (fn := Try.f41) (by kernel_rfl) (c := subC (bodyC Try.prog 41) []) (by kernel_rfl) (by kernel_rfl) (Nat.le_of_ble_eq_true (by kernel_rfl)) ?_
  generalize hQ' : retQ Try.prog Try.f41 (aB r_) = Q'
  have kr : ∀ (ns : List (Nat × Nat × Nat)) (s : LS) (x : Bool), retX Try.prog ns [.tmp 3] s = some (aB x) → x = r_ → Q' .ret s.st := by subst hQ'; intro ns s x hx hq; subst hq; exact ret_ok (fn := Try.f41) ns hx
  change W Try.prog _ (LS.mk 17 [(0, e_GApiNode a0), (1, .t (.fp [.sl 1 (a1.map c_u8)]))] []).st Q'
  refine W_seq ?_
  refine W_y (s' := LS.mk 17 [(1, .t (.fp [.sl 1 (a1.map c_u8)])), (2, .ptr 2 0)] [(2, some (.box 32 [aI .u8 a0.Kind, aI .i64 a0.Line, aI .i64 a0.Col, aI .i64 a0.Size, aI .i64 a0.Num, aS a0.Text]))]) mixed [qn0, qn0] ⟨[1, 2], [], [2], [], [], [], []⟩ aN (by kernel_rfl) ?_
  refine W_seq ?_
  refine W_seq ?_
  refine W_y (s' := LS.mk 17 [(2, .ptr 2 0), (6, .t (.sl 1 (a1.map c_u8))), (7, aI .i64 (a1.length : Int)), (8, aI .i64 0)] [(2, some (.box 32 [aI .u8 a0.Kind, aI .i64 a0.Line, aI .i64 a0.Col, aI .i64 a0.Size, aI .i64 a0.Num, aS a0.Text]))]) mixed [qn0, qn (.len a1.length), qn0] ⟨[2, 6, 7, 8], [], [2], [], [], [], []⟩ (aC (len_obx c_u8 a1) aN) (by kernel_rfl) ?_
  refine W_block ?_
  obtain ⟨n, h⟩ := fix_rec h
  exact W_conv (s' := LS.mk 17 [(2, .ptr 2 0), (6, .t (.sl 1 (a1.map c_u8))), (7, aI .i64 (a1.length : Int)), (8, aI .i64 0)] [(2, some (.box 32 [aI .u8 a0.Kind, aI .i64 a0.Line, aI .i64 a0.Col, aI .i64 a0.Size, aI .i64 a0.Num, aS a0.Text]))]) ⟨[2, 6, 7, 8], [], [2], [], [], [], []⟩ (by kernel_rfl) (tree_of_1_l0_ok n a1 0 a0 r_ _ kr (fun q1 hq1  s' h hf => W_pre hf (tree_of_1_j1_ok q1 r_ _ kr h)) h)
def R_tree_of (a0 : (List Int)) (r : Fv35) : Prop := FnP Try.prog 31 [.t (.sl 1 (a0.map c_u8))] (.t (r.t))
noncomputable def tree_of (a0 : (List Int)) : Option Fv35 :=
  (some (Fv35.mk (.clo 41 [[.sl 1 (a0.map c_u8)]]) (fun b0 => tree_of_1 b0 a0) (fun b0 br hb => fnc_clo (tree_of_1_ok hb))))
set_option maxRecDepth 100000 in
theorem tree_of_ok {a0 : (List Int)} {r_ : Fv35} (h : tree_of a0 = some r_) : R_tree_of a0 r_ := by
  unfold tree_of at h
  refine fn_pureX (fn := Try.f31) (by kernel_rfl) (c := subC (bodyC Try.prog 31) []) (by kernel_rfl) (by kernel_rfl) (Nat.le_of_ble_eq_true (by kernel_rfl)) ?_
  generalize hQ' : retQ Try.prog Try.f31 (.t (r_.t)) = Q'
  have kr : ∀ (ns : List (Nat × Nat × Nat)) (s : LS) (x : Fv35), retX Try.prog ns [.tmp 2] s = some (.t (x.t)) → x = r_ → Q' .ret s.st := by subst hQ'; intro ns s x hx hq; subst hq; exact ret_ok (fn := Try.f31) ns hx
  change W Try.prog _ (LS.mk 4 [(0, .t (.sl 1 (a0.map c_u8)))] []).st Q'
  refine W_seq ?_
  refine W_y (s' := LS.mk 4 [(1, .ptr 1 0)] [(1, some (.box 44 [.t (.sl 1 (a0.map c_u8))]))]) mixed [qn0, qn0] ⟨[1], [], [1], [], [], [], []⟩ aN (by kernel_rfl) ?_
  refine W_seq ?_
  refine W_y (s' := LS.mk 4 [(2, .t (.clo 41 [[.sl 1 (a0.map c_u8)]]))] []) mixed [(none, [1], .quiet (.t (.clo 41 [[.sl 1 (a0.map c_u8)]]))), qn0] ⟨[2], [], [], [], [], [], []⟩ (aC (show Quiet Try.prog (opAt (subC (bodyC Try.prog 31) [1, 0]) 0) [.t (.fp [.sl 1 (a0.map c_u8)])] (.t (.clo 41 [[.sl 1 (a0.map c_u8)]])) from makeFunc_ob (by rfl) [[.sl 1 (a0.map c_u8)]] (by rfl)) aN) (by kernel_rfl) ?_
  refine W_ret ?_
  exact kr [] _ _ (by kernel_rfl) (Option.some.inj h)
def R_tree_look_row (a0 : GTreeLook) (a1 : (List Fv35)) (r : Bool) : Prop := FnP Try.prog 42 [e_GTreeLook a0, .t (.sl 1 (a1.map c_Fv35))] (aB r)
inductive tree_look_row_C where
  | l0 (a1 : (List Fv35)) (v0_15_0 : Int) (a0 : GTreeLook)
  | j1 
abbrev tree_look_row_C_T : tree_look_row_C → Type := fun _ => Bool
noncomputable def tree_look_row_l0_b (g : (i : tree_look_row_C) → Option (tree_look_row_C_T i)) (a1 : (List Fv35)) (v0_15_0 : Int) (a0 : GTreeLook) : Option Bool :=
  (if v0_15_0 < (a1.length : Int) then ((getI a1 v0_15_0).bind fun (x5_1 : Fv35) => ((getI a0.kids_ v0_15_0).bind fun (x6_4 : GApiNode) => ((x5_1.run x6_4).bind fun (r6_6 : Bool) => (if r6_6 = true then g (.l0 a1 (w64 (v0_15_0 + 1)) a0) else (some false))))) else g (.j1))
noncomputable def tree_look_row_j1_b (g : (i : tree_look_row_C) → Option (tree_look_row_C_T i))  : Option Bool :=
  (some true)
noncomputable def tree_look_row_B (g : (i : tree_look_row_C) → Option (tree_look_row_C_T i)) : (i : tree_look_row_C) → Option (tree_look_row_C_T i)
  | .l0 a1 v0_15_0 a0 => tree_look_row_l0_b g a1 v0_15_0 a0
  | .j1  => tree_look_row_j1_b g 
theorem tree_look_row_B_fin (i : tree_look_row_C) : Fin1 (fun g => tree_look_row_B g i) := by
  cases i with
  | l0 a1 v0_15_0 a0 => show Fin1 (fun g => tree_look_row_l0_b g a1 v0_15_0 a0); unfold tree_look_row_l0_b; repeat (first | refine fin_bind ?_ (fun _ => ?_) | refine fin_ite ?_ ?_ | exact fin_ask _ | exact fin_const _)
  | j1  => show Fin1 (fun g => tree_look_row_j1_b g ); unfold tree_look_row_j1_b; repeat (first | refine fin_bind ?_ (fun _ => ?_) | refine fin_ite ?_ ?_ | exact fin_ask _ | exact fin_const _)
noncomputable def tree_look_row_l0 (a1 : (List Fv35)) (v0_15_0 : Int) (a0 : GTreeLook) : Option Bool := fixD tree_look_row_B (.l0 a1 v0_15_0 a0)
noncomputable def tree_look_row_j1  : Option Bool := fixD tree_look_row_B (.j1 )
theorem tree_look_row_l0_eq (a1 : (List Fv35)) (v0_15_0 : Int) (a0 : GTreeLook) : tree_look_row_l0 a1 v0_15_0 a0 =
  (if v0_15_0 < (a1.length : Int) then ((getI a1 v0_15_0).bind fun (x5_1 : Fv35) => ((getI a0.kids_ v0_15_0).bind fun (x6_4 : GApiNode) => ((x5_1.run x6_4).bind fun (r6_6 : Bool) => (if r6_6 = true then tree_look_row_l0 a1 (w64 (v0_15_0 + 1)) a0 else (some false))))) else tree_look_row_j1) := fix_eq tree_look_row_B_fin _
theorem tree_look_row_j1_eq  : tree_look_row_j1  =
  (some true) := fix_eq tree_look_row_B_fin _
set_option maxRecDepth 100000 in
theorem tree_look_row_l0_ok (n : Nat)  (a1 : (List Fv35)) (v0_15_0 : Int) (a0 : GTreeLook) (r_ : Bool) (Q' : Exit → St → Prop) (kr : ∀ (ns : List (Nat × Nat × Nat)) (s : LS) (x : Bool), retX Try.prog ns [.tmp 4] s = some (aB x) → x = r_ → Q' .ret s.st) (k_x_0 : ∀ (q : Nat), q < n → ∀  (s' : LS), recN tree_look_row_B q (.j1 ) = some r_ → Fits s'.st (LS.mk 29 [] []).st → Q' (.exit 0) s'.st) (h : recN tree_look_row_B n (.l0 a1 v0_15_0 a0) = some r_) : W Try.prog (subC (bodyC Try.prog 42) [1, 1, 0, 1, 0]) (LS.mk 29 [(2, .ptr 2 0), (13, .t (.sl 1 (a1.map c_Fv35))), (14, aI .i64 (a1.length : Int)), (15, aI .i64 v0_15_0)] [(2, some (.box 37 [aI .u8 a0.x_.Kind, aI .i64 a0.x_.Line, aI .i64 a0.x_.Col, aI .i64 a0.x_.Size, aI .i64 a0.x_.Num, aS a0.x_.Text, .t (.sl 6 (a0.kids_.map c_GApiNode))]))]).st Q' := by
  refine W_fix (σ := Int) (fun m x_ => m ≤ n ∧ recN tree_look_row_B m (.l0 a1 x_ a0) = some r_) (fun x_ => LS.mk 29 [(2, .ptr 2 0), (13, .t (.sl 1 (a1.map c_Fv35))), (14, aI .i64 (a1.length : Int)), (15, aI .i64 x_)] [(2, some (.box 37 [aI .u8 a0.x_.Kind, aI .i64 a0.x_.Line, aI .i64 a0.x_.Col, aI .i64 a0.x_.Size, aI .i64 a0.x_.Num, aS a0.x_.Text, .t (.sl 6 (a0.kids_.map c_GApiNode))]))]) (fun x hx => by cases hx.2) (fun _ _ => rfl) ?_ n (v0_15_0) ⟨Nat.le_refl _, h⟩
  clear h
  rintro m v0_15_0 ⟨hlt, h⟩
  replace h : tree_look_row_l0_b (recN tree_look_row_B m) a1 v0_15_0 a0 = some r_ := h
  unfold tree_look_row_l0_b at h
  refine W_seq ?_
  refine W_y (s' := LS.mk 29 [(2, .ptr 2 0), (13, .t (.sl 1 (a1.map c_Fv35))), (14, aI .i64 (a1.length : Int)), (15, aI .i64 v0_15_0), (16, aB (decide (v0_15_0 < (a1.length : Int))))] [(2, some (.box 37 [aI .u8 a0.x_.Kind, aI .i64 a0.x_.Line, aI .i64 a0.x_.Col, aI .i64 a0.x_.Size, aI .i64 a0.x_.Num, aS a0.x_.Text, .t (.sl 6 (a0.kids_.map c_GApiNode))]))]) mixed [qn0] ⟨[2, 13, 14, 15, 16], [], [2], [], [], [], []⟩ aN (by kernel_rfl) ?_
  refine W_seq ?_
  refine W_cond (decide (v0_15_0 < (a1.length : Int))) (by kernel_rfl) (fun hb1001 => ?_) (fun hb1001 => ?_)
  · have hx1002 := hb1001
    have h := if_t h hx1002
    refine W_skip ?_
    refine W_seq ?_
    refine W_block ?_
    refine W_seq ?_
    obtain ⟨x5_1, hx5_1, h⟩ := bind_ok h
    refine W_y (s' := LS.mk 29 [(2, .ptr 2 0), (5, aI .i64 v0_15_0), (6, .t (x5_1.t)), (13, .t (.sl 1 (a1.map c_Fv35))), (14, aI .i64 (a1.length : Int)), (15, aI .i64 v0_15_0)] [(2, some (.box 37 [aI .u8 a0.x_.Kind, aI .i64 a0.x_.Line, aI .i64 a0.x_.Col, aI .i64 a0.x_.Size, aI .i64 a0.x_.Num, aS a0.x_.Text, .t (.sl 6 (a0.kids_.map c_GApiNode))]))]) mixed [qn0, qn (.ix (Int.toNat v0_15_0) (c_Fv35 x5_1)), qn0, qn0, qn0] ⟨[2, 5, 6, 13, 14, 15], [], [2], [], [], [], []⟩ (aC (ix_obx c_Fv35 hx5_1) aN) (by kernel_rfl) ?_
    refine W_seq ?_
    obtain ⟨x6_4, hx6_4, h⟩ := bind_ok h
    obtain ⟨r6_6, hr6_6, h⟩ := bind_ok h
    refine W_y (s' := LS.mk 29 [(2, .ptr 2 0), (13, .t (.sl 1 (a1.map c_Fv35))), (14, aI .i64 (a1.length : Int)), (15, aI .i64 v0_15_0), (27, aB (!r6_6))] [(2, some (.box 37 [aI .u8 a0.x_.Kind, aI .i64 a0.x_.Line, aI .i64 a0.x_.Col, aI .i64 a0.x_.Size, aI .i64 a0.x_.Num, aS a0.x_.Text, .t (.sl 6 (a0.kids_.map c_GApiNode))]))]) mixed [qn0, qn0, qn0, qn0, qn (.ix (Int.toNat v0_15_0) (c_GApiNode x6_4)), qn0, qn (.callv (aB r6_6)), qn0] ⟨[2, 13, 14, 15, 27], [], [2], [], [], [], []⟩ (aC (ix_obx c_GApiNode hx6_4) (aC (x5_1.ok _ _ hr6_6) aN)) (by kernel_rfl) ?_
    refine W_cond (!r6_6) (by kernel_rfl) (fun hb1003 => ?_) (fun hb1003 => ?_)
    · have hx1004 : r6_6 = false := (bnot_t hb1003)
      have h := ib_f h hx1004
      refine W_seq ?_
      refine W_y (s' := LS.mk 29 [(4, aB false)] []) mixed [qn0] ⟨[4], [], [], [], [], [], []⟩ aN (by kernel_rfl) ?_
      refine W_ret ?_
      exact kr [] _ _ (by kernel_rfl) (Option.some.inj h)
    · have hx1004 : r6_6 = true := (bnot_f hb1003)
      have h := ib_t h hx1004
      refine W_skip ?_
      refine W_y (s' := LS.mk 29 [(2, .ptr 2 0), (13, .t (.sl 1 (a1.map c_Fv35))), (14, aI .i64 (a1.length : Int)), (15, aI .i64 (w64 (v0_15_0 + 1)))] [(2, some (.box 37 [aI .u8 a0.x_.Kind, aI .i64 a0.x_.Line, aI .i64 a0.x_.Col, aI .i64 a0.x_.Size, aI .i64 a0.x_.Num, aS a0.x_.Text, .t (.sl 6 (a0.kids_.map c_GApiNode))]))]) mixed [qn0, qn0] ⟨[2, 13, 14, 15], [], [2], [], [], [], []⟩ aN (by kernel_rfl) ?_
      exact ⟨m, ((w64 (v0_15_0 + 1))), Nat.le_refl _, ⟨Nat.le_of_lt hlt, h⟩, convX_fits (v := ⟨[2, 13, 14, 15], [], [2], [], [], [], []⟩) (s' := LS.mk 29 [(2, .ptr 2 0), (13, .t (.sl 1 (a1.map c_Fv35))), (14, aI .i64 (a1.length : Int)), (15, aI .i64 (w64 (v0_15_0 + 1)))] [(2, some (.box 37 [aI .u8 a0.x_.Kind, aI .i64 a0.x_.Line, aI .i64 a0.x_.Col, aI .i64 a0.x_.Size, aI .i64 a0.x_.Num, aS a0.x_.Text, .t (.sl 6 (a0.kids_.map c_GApiNode))]))]) (by kernel_rfl)⟩
  · have hx1002 := hb1001
    have h := if_f h hx1002
    refine W_exit ?_
    exact k_x_0 m hlt  _ h (convX_fits (v := ⟨[], [], [], [], [], [], []⟩) (s' := LS.mk 29 [] []) (by kernel_rfl))
set_option maxRecDepth 100000 in
theorem tree_look_row_j1_ok (n : Nat)   (r_ : Bool) (Q' : Exit → St → Prop) (kr : ∀ (ns : List (Nat × Nat × Nat)) (s : LS) (x : Bool), retX Try.prog ns [.tmp 4] s = some (aB x) → x = r_ → Q' .ret s.st)  (h : recN tree_look_row_B n (.j1 ) = some r_) : W Try.prog (subC (bodyC Try.prog 42) [1, 1, 1]) (LS.mk 29 [] []).st Q' := by
  cases n with
  | zero => cases h
  | succ m =>
  have hlt : m < m + 1 := Nat.lt_succ_self m
  replace h : tree_look_row_j1_b (recN tree_look_row_B m)  = some r_ := h
  unfold tree_look_row_j1_b at h
  refine W_seq ?_
  refine W_y (s' := LS.mk 29 [(4, aB true)] []) mixed [qn0] ⟨[4], [], [], [], [], [], []⟩ aN (by kernel_rfl) ?_
  refine W_ret ?_
  exact kr [] _ _ (by kernel_rfl) (Option.some.inj h)
noncomputable def tree_look_row (a0 : GTreeLook) (a1 : (List Fv35)) : Option Bool :=
  (if (a0.kids_.length : Int) = (a1.length : Int) then tree_look_row_l0 a1 0 a0 else (some false))
set_option maxRecDepth 100000 in
theorem tree_look_row_ok {a0 : GTreeLook} {a1 : (List Fv35)} {r_ : Bool} (h : tree_look_row a0 a1 = some r_) : R_tree_look_row a0 a1 r_ := by
  unfold tree_look_row at h
  refine fn_pureX (fn := Try.f42) (by kernel_rfl) (c := subC (bodyC Try.prog 42) []) (by kernel_rfl) (by kernel_rfl) (Nat.le_of_ble_eq_true (by kernel_rfl)) ?_
  generalize hQ' : retQ Try.prog Try.f42 (aB r_) = Q'
  have kr : ∀ (ns : List (Nat × Nat × Nat)) (s : LS) (x : Bool), retX Try.prog ns [.tmp 4] s = some (aB x) → x = r_ → Q' .ret s.st := by subst hQ'; intro ns s x hx hq; subst hq; exact ret_ok (fn := Try.f42) ns hx
  change W Try.prog _ (LS.mk 29 [(0, e_GTreeLook a0), (1, .t (.sl 1 (a1.map c_Fv35)))] []).st Q'
  refine W_seq ?_
  refine W_y (s' := LS.mk 29 [(1, .t (.sl 1 (a1.map c_Fv35))), (2, .ptr 2 0)] [(2, some (.box 37 [aI .u8 a0.x_.Kind, aI .i64 a0.x_.Line, aI .i64 a0.x_.Col, aI .i64 a0.x_.Size, aI .i64 a0.x_.Num, aS a0.x_.Text, .t (.sl 6 (a0.kids_.map c_GApiNode))]))]) mixed [qn0, qn0] ⟨[1, 2], [], [2], [], [], [], []⟩ aN (by kernel_rfl) ?_
  refine W_seq ?_
  refine W_seq ?_
  refine W_y (s' := LS.mk 29 [(1, .t (.sl 1 (a1.map c_Fv35))), (2, .ptr 2 0), (12, aB (!(decide ((a0.kids_.length : Int) = (a1.length : Int)))))] [(2, some (.box 37 [aI .u8 a0.x_.Kind, aI .i64 a0.x_.Line, aI .i64 a0.x_.Col, aI .i64 a0.x_.Size, aI .i64 a0.x_.Num, aS a0.x_.Text, .t (.sl 6 (a0.kids_.map c_GApiNode))]))]) mixed [qn0, qn0, qn (.len a0.kids_.length), qn0, qn (.len a1.length), qn0] ⟨[1, 2, 12], [], [2], [], [], [], []⟩ (aC (len_obx c_GApiNode a0.kids_) (aC (len_obx c_Fv35 a1) aN)) (by kernel_rfl) ?_
  refine W_cond (!(decide ((a0.kids_.length : Int) = (a1.length : Int)))) (by kernel_rfl) (fun hb1 => ?_) (fun hb1 => ?_)
  · have hx2 : (decide ((a0.kids_.length : Int) = (a1.length : Int))) = false := (bnot_t hb1)
    have h := if_f h hx2
    refine W_seq ?_
    refine W_y (s' := LS.mk 29 [(4, aB false)] []) mixed [qn0] ⟨[4], [], [], [], [], [], []⟩ aN (by kernel_rfl) ?_
    refine W_ret ?_
    exact kr [] _ _ (by kernel_rfl) (Option.some.inj h)
  · have hx2 : (decide ((a0.kids_.length : Int) = (a1.length : Int))) = true := (bnot_f hb1)
    have h := if_t h hx2
    refine W_skip ?_
    refine W_seq ?_
    refine W_seq ?_
    refine W_y (s' := LS.mk 29 [(2, .ptr 2 0), (13, .t (.sl 1 (a1.map c_Fv35))), (14, aI .i64 (a1.length : Int)), (15, aI .i64 0)] [(2, some (.box 37 [aI .u8 a0.x_.Kind, aI .i64 a0.x_.Line, aI .i64 a0.x_.Col, aI .i64 a0.x_.Size, aI .i64 a0.x_.Num, aS a0.x_.Text, .t (.sl 6 (a0.kids_.map c_GApiNode))]))]) mixed [qn0, qn (.len a1.length), qn0] ⟨[2, 13, 14, 15], [], [2], [], [], [], []⟩ (aC (len_obx c_Fv35 a1) aN) (by kernel_rfl) ?_
    refine W_block ?_
    obtain ⟨n, h⟩ := fix_rec h
    exact W_conv (s' := LS.mk 29 [(2, .ptr 2 0), (13, .t (.sl 1 (a1.map c_Fv35))), (14, aI .i64 (a1.length : Int)), (15, aI .i64 0)] [(2, some (.box 37 [aI .u8 a0.x_.Kind, aI .i64 a0.x_.Line, aI .i64 a0.x_.Col, aI .i64 a0.x_.Size, aI .i64 a0.x_.Num, aS a0.x_.Text, .t (.sl 6 (a0.kids_.map c_GApiNode))]))]) ⟨[2, 13, 14, 15], [], [2], [], [], [], []⟩ (by kernel_rfl) (tree_look_row_l0_ok n a1 0 a0 r_ _ kr (fun q1 hq1  s' h hf => W_pre hf (tree_look_row_j1_ok q1 r_ _ kr h)) h)
def R_tree_between_1 (a0 : GApiNode) (a1 : Int) (a2 : Int) (r : Bool) : Prop := FnP Try.prog 53 [e_GApiNode a0, .t (.fp [tI .u8 a1]), .t (.fp [tI .u8 a2])] (aB r)
noncomputable def tree_between_1 (a0 : GApiNode) (a1 : Int) (a2 : Int) : Option Bool :=
  (if a0.Kind ≥ a1 then (some (decide (a0.Kind ≤ a2))) else (some false))
set_option maxRecDepth 100000 in
theorem tree_between_1_ok {a0 : GApiNode} {a1 : Int} {a2 : Int} {r_ : Bool} (h : tree_between_1 a0 a1 a2 = some r_) : R_tree_between_1 a0 a1 a2 r_ := by
  unfold tree_between_1 at h
  refine fn_pureX (fn := Try.f53) (by kernel_rfl) (c := subC (bodyC Try.prog 53) []) (by kernel_rfl) (by kernel_rfl) (Nat.le_of_ble_eq_true (by kernel_rfl)) ?_
  generalize hQ' : retQ Try.prog Try.f53 (aB r_) = Q'
  have kr : ∀ (ns : List (Nat × Nat × Nat)) (s : LS) (x : Bool), retX Try.prog ns [.tmp 4] s = some (aB x) → x = r_ → Q' .ret s.st := by subst hQ'; intro ns s x hx hq; subst hq; exact ret_ok (fn := Try.f53) ns hx
  change W Try.prog _ (LS.mk 15 [(0, e_GApiNode a0), (1, .t (.fp [tI .u8 a1])), (2, .t (.fp [tI .u8 a2]))] []).st Q'
  refine W_seq ?_
  refine W_y (s' := LS.mk 15 [(1, .t (.fp [tI .u8 a1])), (2, .t (.fp [tI .u8 a2])), (3, .ptr 3 0)] [(3, some (.box 32 [aI .u8 a0.Kind, aI .i64 a0.Line, aI .i64 a0.Col, aI .i64 a0.Size, aI .i64 a0.Num, aS a0.Text]))]) mixed [qn0, qn0] ⟨[1, 2, 3], [], [3], [], [], [], []⟩ aN (by kernel_rfl) ?_
  refine W_seq ?_
  refine (Bool.eq_false_or_eq_true (decide (a0.Kind ≥ a1))).elim (fun hb1 => ?_) (fun hb1 => ?_)
  · have hx2 := hb1
    have h := if_t h hx2
    refine W_y (s' := LS.mk 15 [(4, aB (decide (a0.Kind ≤ a2)))] []) mixed [qn0, qn0, qn0, qn0, qn0, qt0, qt0, qt0, qt0, qn (.dec true), qn0] ⟨[4], [], [], [], [], [], []⟩ (aC hx2 (aC hx2 (aC hx2 (aC hx2 (aC hx2 aN))))) (by kernel_rfl) ?_
    refine W_ret ?_
    exact kr [] _ _ (by kernel_rfl) (Option.some.inj h)
  · have hx2 := hb1
    have h := if_f h hx2
    refine W_y (s' := LS.mk 15 [(4, aB false)] []) mixed [qn0, qn0, qn0, qn0, qn0, qf0, qf0, qf0, qf0, qn (.dec false), qn0] ⟨[4], [], [], [], [], [], []⟩ (aC hx2 (aC hx2 (aC hx2 (aC hx2 (aC hx2 aN))))) (by kernel_rfl) ?_
    refine W_ret ?_
    exact kr [] _ _ (by kernel_rfl) (Option.some.inj h)
def R_tree_between (a0 : Int) (a1 : Int) (r : Fv35) : Prop := FnP Try.prog 45 [aI .u8 a0, aI .u8 a1] (.t (r.t))
noncomputable def tree_between (a0 : Int) (a1 : Int) : Option Fv35 :=
  (some (Fv35.mk (.clo 53 [[tI .u8 a0], [tI .u8 a1]]) (fun b0 => tree_between_1 b0 a0 a1) (fun b0 br hb => fnc_clo (tree_between_1_ok hb))))
set_option maxRecDepth 100000 in
theorem tree_between_ok {a0 : Int} {a1 : Int} {r_ : Fv35} (h : tree_between a0 a1 = some r_) : R_tree_between a0 a1 r_ := by
  unfold tree_between at h
  refine fn_pureX (fn := Try.f45) (by kernel_rfl) (c := subC (bodyC Try.prog 45) []) (by kernel_rfl) (by kernel_rfl) (Nat.le_of_ble_eq_true (by kernel_rfl)) ?_
  generalize hQ' : retQ Try.prog Try.f45 (.t (r_.t)) = Q'
  have kr : ∀ (ns : List (Nat × Nat × Nat)) (s : LS) (x : Fv35), retX Try.prog ns [.tmp 4] s = some (.t (x.t)) → x = r_ → Q' .ret s.st := by subst hQ'; intro ns s x hx hq; subst hq; exact ret_ok (fn := Try.f45) ns hx
  change W Try.prog _ (LS.mk 6 [(0, aI .u8 a0), (1, aI .u8 a1)] []).st Q'
  refine W_seq ?_
  refine W_y (s' := LS.mk 6 [(2, .ptr 2 0), (3, .ptr 3 0)] [(2, some (.box 5 [aI .u8 a0])), (3, some (.box 5 [aI .u8 a1]))]) mixed [qn0, qn0, qn0] ⟨[2, 3], [], [2, 3], [], [], [], []⟩ aN (by kernel_rfl) ?_
  refine W_seq ?_
  refine W_y (s' := LS.mk 6 [(4, .t (.clo 53 [[tI .u8 a0], [tI .u8 a1]]))] []) mixed [(none, [2, 3], .quiet (.t (.clo 53 [[tI .u8 a0], [tI .u8 a1]]))), qn0] ⟨[4], [], [], [], [], [], []⟩ (aC (show Quiet Try.prog (opAt (subC (bodyC Try.prog 45) [1, 0]) 0) [.t (.fp [tI .u8 a0]), .t (.fp [tI .u8 a1])] (.t (.clo 53 [[tI .u8 a0], [tI .u8 a1]])) from makeFunc_ob (by rfl) [[tI .u8 a0], [tI .u8 a1]] (by rfl)) aN) (by kernel_rfl) ?_
  refine W_ret ?_
  exact kr [] _ _ (by kernel_rfl) (Option.some.inj h)
def R_tree_someType (a0 : GApiNode) (r : Bool) : Prop := FnP Try.prog 43 [e_GApiNode a0] (aB r)
noncomputable def tree_someType (a0 : GApiNode) : Option Bool :=
  ((tree_between 15 20).bind fun (r1_0 : Fv35) => ((r1_0.run a0).bind fun (r1_2 : Bool) => (some r1_2)))
set_option maxRecDepth 100000 in
theorem tree_someType_ok {a0 : GApiNode} {r_ : Bool} (h : tree_someType a0 = some r_) : R_tree_someType a0 r_ := by
  unfold tree_someType at h
  refine fn_pureX (fn := Try.f43) (by kernel_rfl) (c := subC (bodyC Try.prog 43) []) (by kernel_rfl) (by kernel_rfl) (Nat.le_of_ble_eq_true (by kernel_rfl)) ?_
  generalize hQ' : retQ Try.prog Try.f43 (aB r_) = Q'
  have kr : ∀ (ns : List (Nat × Nat × Nat)) (s : LS) (x : Bool), retX Try.prog ns [.tmp 2] s = some (aB x) → x = r_ → Q' .ret s.st := by subst hQ'; intro ns s x hx hq; subst hq; exact ret_ok (fn := Try.f43) ns hx
  change W Try.prog _ (LS.mk 6 [(0, e_GApiNode a0)] []).st Q'
  refine W_seq ?_
  refine W_y (s' := LS.mk 6 [(1, .ptr 1 0)] [(1, some (.box 32 [aI .u8 a0.Kind, aI .i64 a0.Line, aI .i64 a0.Col, aI .i64 a0.Size, aI .i64 a0.Num, aS a0.Text]))]) mixed [qn0, qn0] ⟨[1], [], [1], [], [], [], []⟩ aN (by kernel_rfl) ?_
  refine W_seq ?_
  obtain ⟨r1_0, hr1_0, h⟩ := bind_ok h
  have hr1_0 := tree_between_ok hr1_0
  obtain ⟨r1_2, hr1_2, h⟩ := bind_ok h
  refine W_y (s' := LS.mk 6 [(2, aB r1_2)] []) mixed [qn (.call [] (.t (r1_0.t))), qn0, qn (.callv (aB r1_2)), qn0] ⟨[2], [], [], [], [], [], []⟩ (aC hr1_0 (aC (r1_0.ok _ _ hr1_2) aN)) (by kernel_rfl) ?_
  refine W_ret ?_
  exact kr [] _ _ (by kernel_rfl) (Option.some.inj h)
def R_tree_block (a0 : GApiNode) (r : Bool) : Prop := FnP Try.prog 52 [e_GApiNode a0] (aB r)
noncomputable def tree_block (a0 : GApiNode) : Option Bool :=
  (some (decide (a0.Kind = 6)))
set_option maxRecDepth 100000 in
theorem tree_block_ok {a0 : GApiNode} {r_ : Bool} (h : tree_block a0 = some r_) : R_tree_block a0 r_ := by
  unfold tree_block at h
  refine fn_pureX (fn := Try.f52) (by kernel_rfl) (c := subC (bodyC Try.prog 52) []) (by kernel_rfl) (by kernel_rfl) (Nat.le_of_ble_eq_true (by kernel_rfl)) ?_
  generalize hQ' : retQ Try.prog Try.f52 (aB r_) = Q'
  have kr : ∀ (ns : List (Nat × Nat × Nat)) (s : LS) (x : Bool), retX Try.prog ns [.tmp 2] s = some (aB x) → x = r_ → Q' .ret s.st := by subst hQ'; intro ns s x hx hq; subst hq; exact ret_ok (fn := Try.f52) ns hx
  change W Try.prog _ (LS.mk 6 [(0, e_GApiNode a0)] []).st Q'
  refine W_seq ?_
  refine W_y (s' := LS.mk 6 [(1, .ptr 1 0)] [(1, some (.box 32 [aI .u8 a0.Kind, aI .i64 a0.Line, aI .i64 a0.Col, aI .i64 a0.Size, aI .i64 a0.Num, aS a0.Text]))]) mixed [qn0, qn0] ⟨[1], [], [1], [], [], [], []⟩ aN (by kernel_rfl) ?_
  refine W_seq ?_
  refine W_y (s' := LS.mk 6 [(2, aB (decide (a0.Kind = 6)))] []) mixed [qn0, qn0, qn0, qn0] ⟨[2], [], [], [], [], [], []⟩ aN (by kernel_rfl) ?_
  refine W_ret ?_
  exact kr [] _ _ (by kernel_rfl) (Option.some.inj h)
def R_tree_look_function (a0 : GTreeLook) (r : Bool) : Prop := FnP Try.prog 44 [e_GTreeLook a0] (aB r)
noncomputable def tree_look_function_j0 (a0 : GTreeLook) : Option Bool :=
  (if CutR 0 (w64 ((a0.kids_.length : Int) - 2)) (a0.kids_.length : Int) then ((tree_of ([5] : List Int)).bind fun (r4_9 : Fv35) => ((tree_look_all (GTreeLook.mk a0.x_ (cutL a0.kids_ 0 (w64 ((a0.kids_.length : Int) - 2)))) r4_9).bind fun (r4_10 : Bool) => (some r4_10))) else none)
set_option maxRecDepth 100000 in
theorem tree_look_function_j0_ok (a0 : GTreeLook) (r_ : Bool) (Q' : Exit → St → Prop) (kr : ∀ (ns : List (Nat × Nat × Nat)) (s : LS) (x : Bool), retX Try.prog ns [.tmp 2] s = some (aB x) → x = r_ → Q' .ret s.st)  (h : tree_look_function_j0 a0 = some r_) : W Try.prog (subC (bodyC Try.prog 44) [1, 1, 1]) (LS.mk 58 [(1, .ptr 1 0), (3, aI .i64 (a0.kids_.length : Int))] [(1, some (.box 37 [aI .u8 a0.x_.Kind, aI .i64 a0.x_.Line, aI .i64 a0.x_.Col, aI .i64 a0.x_.Size, aI .i64 a0.x_.Num, aS a0.x_.Text, .t (.sl 6 (a0.kids_.map c_GApiNode))]))]).st Q' := by
  unfold tree_look_function_j0 at h
  refine W_seq ?_
  obtain ⟨hd1001, h⟩ := ite_ok h
  obtain ⟨r4_9, hr4_9, h⟩ := bind_ok h
  have hr4_9 := tree_of_ok hr4_9
  obtain ⟨r4_10, hr4_10, h⟩ := bind_ok h
  have hr4_10 := tree_look_all_ok hr4_10
  refine W_y (s' := LS.mk 58 [(2, aB r4_10)] []) mixed [qn0, qn0, qn0, qn0, qn0, qn0, qn (.quiet (.t (.sl 6 ((cutL a0.kids_ 0 (w64 ((a0.kids_.length : Int) - 2))).map c_GApiNode)))), qn0, qn (.quiet (.t (.sl 1 (([5] : List Int).map c_u8)))), qn (.call [] (.t (r4_9.t))), qn (.call [] (aB r4_10)), qn0] ⟨[2], [], [], [], [], [], []⟩ (aC (show Quiet Try.prog (opAt (subC (bodyC Try.prog 44) [1, 1, 1, 0]) 6) [.t (.sl 6 (a0.kids_.map c_GApiNode)), aI .i64 (w64 ((a0.kids_.length : Int) - 2))] (.t (.sl 6 ((cutL a0.kids_ 0 (w64 ((a0.kids_.length : Int) - 2))).map c_GApiNode))) from cutL_obh (by rfl) (by kernel_rfl) ti32 (by rfl) _ hd1001) (aC (show Quiet Try.prog (opAt (subC (bodyC Try.prog 44) [1, 1, 1, 0]) 8) [aI .u8 5] (.t (.sl 1 (([5] : List Int).map c_u8))) from makes_quiet (build_makes (by rfl) ti44 (by rfl) ti5 (by kernel_rfl) (by kernel_rfl) (by kernel_rfl) (by rfl) (by rfl) (by kernel_rfl))) (aC hr4_9 (aC hr4_10 aN)))) (by kernel_rfl) ?_
  refine W_ret ?_
  exact kr [] _ _ (by kernel_rfl) (Option.some.inj h)
noncomputable def tree_look_function (a0 : GTreeLook) : Option Bool :=
  (if (a0.kids_.length : Int) < 2 then (some false) else (if (w64 ((a0.kids_.length : Int) - 2)) = a0.x_.Num then ((getI a0.kids_ (w64 ((a0.kids_.length : Int) - 1))).bind fun (x2_15 : GApiNode) => ((tree_block x2_15).bind fun (r2_17 : Bool) => (if r2_17 = true then ((getI a0.kids_ (w64 ((a0.kids_.length : Int) - 2))).bind fun (x2_25 : GApiNode) => (if x2_25.Kind = 14 then tree_look_function_j0 a0 else ((tree_someType x2_25).bind fun (r2_36 : Bool) => (if r2_36 = true then tree_look_function_j0 a0 else (some false))))) else (some false)))) else (some false)))
set_option maxRecDepth 100000 in
theorem tree_look_function_ok {a0 : GTreeLook} {r_ : Bool} (h : tree_look_function a0 = some r_) : R_tree_look_function a0 r_ := by
  unfold tree_look_function at h
  refine fn_pureX (fn := Try.f44) (by kernel_rfl) (c := subC (bodyC Try.prog 44) []) (by kernel_rfl) (by kernel_rfl) (Nat.le_of_ble_eq_true (by kernel_rfl)) ?_
  generalize hQ' : retQ Try.prog Try.f44 (aB r_) = Q'
  have kr : ∀ (ns : List (Nat × Nat × Nat)) (s : LS) (x : Bool), retX Try.prog ns [.tmp 2] s = some (aB x) → x = r_ → Q' .ret s.st := by subst hQ'; intro ns s x hx hq; subst hq; exact ret_ok (fn := Try.f44) ns hx
  change W Try.prog _ (LS.mk 58 [(0, e_GTreeLook a0)] []).st Q'
  refine W_seq ?_
  refine W_y (s' := LS.mk 58 [(1, .ptr 1 0)] [(1, some (.box 37 [aI .u8 a0.x_.Kind, aI .i64 a0.x_.Line, aI .i64 a0.x_.Col, aI .i64 a0.x_.Size, aI .i64 a0.x_.Num, aS a0.x_.Text, .t (.sl 6 (a0.kids_.map c_GApiNode))]))]) mixed [qn0, qn0] ⟨[1], [], [1], [], [], [], []⟩ aN (by kernel_rfl) ?_
  refine W_seq ?_
  refine W_y (s' := LS.mk 58 [(1, .ptr 1 0), (3, aI .i64 (a0.kids_.length : Int))] [(1, some (.box 37 [aI .u8 a0.x_.Kind, aI .i64 a0.x_.Line, aI .i64 a0.x_.Col, aI .i64 a0.x_.Size, aI .i64 a0.x_.Num, aS a0.x_.Text, .t (.sl 6 (a0.kids_.map c_GApiNode))]))]) mixed [qn0, qn0, qn (.len a0.kids_.length), qn0] ⟨[1, 3], [], [1], [], [], [], []⟩ (aC (len_obx c_GApiNode a0.kids_) aN) (by kernel_rfl) ?_
  refine W_seq ?_
  refine W_seq ?_
  refine (Bool.eq_false_or_eq_true (decide ((a0.kids_.length : Int) < 2))).elim (fun hb1 => ?_) (fun hb1 => ?_)
  · have hx2 := hb1
    have h := if_t h hx2
    refine W_y (s' := LS.mk 58 [(1, .ptr 1 0), (3, aI .i64 (a0.kids_.length : Int)), (46, aB true)] [(1, some (.box 37 [aI .u8 a0.x_.Kind, aI .i64 a0.x_.Line, aI .i64 a0.x_.Col, aI .i64 a0.x_.Size, aI .i64 a0.x_.Num, aS a0.x_.Text, .t (.sl 6 (a0.kids_.map c_GApiNode))]))]) mixed [qn0, qn0, qn0, qt0, qt0, qt0, qt0, qt0, qt0, qn (.dec true), qn0, qn0, qn0, qn0, qn0, qn0, qn0, qn0, qn0, qn0, qn0, qn0, qn0, qn0, qn0, qn0, qn0, qn0, qn0, qn0, qn0, qn0, qn0, qn0, qn0, qn0, qn0, qn0, qn0, qn0] ⟨[1, 3, 46], [], [1], [], [], [], []⟩ (aC hx2 (aC hx2 (aC hx2 (aC hx2 (aC hx2 (aC hx2 (aC hx2 aN))))))) (by kernel_rfl) ?_
    refine W_cond true (by kernel_rfl) (fun _ => ?_) (fun hb => nomatch ((rfl : true = true).symm.trans hb))
    refine W_seq ?_
    refine W_y (s' := LS.mk 58 [(2, aB false)] []) mixed [qn0] ⟨[2], [], [], [], [], [], []⟩ aN (by kernel_rfl) ?_
    refine W_ret ?_
    exact kr [] _ _ (by kernel_rfl) (Option.some.inj h)
  · have hx2 := hb1
    have h := if_f h hx2
    refine (Bool.eq_false_or_eq_true (!(decide ((w64 ((a0.kids_.length : Int) - 2)) = a0.x_.Num)))).elim (fun hb3 => ?_) (fun hb3 => ?_)
    · have hx4 : (decide ((w64 ((a0.kids_.length : Int) - 2)) = a0.x_.Num)) = false := (bnot_t hb3)
      have h := if_f h hx4
      refine W_y (s' := LS.mk 58 [(1, .ptr 1 0), (3, aI .i64 (a0.kids_.length : Int)), (46, aB true)] [(1, some (.box 37 [aI .u8 a0.x_.Kind, aI .i64 a0.x_.Line, aI .i64 a0.x_.Col, aI .i64 a0.x_.Size, aI .i64 a0.x_.Num, aS a0.x_.Text, .t (.sl 6 (a0.kids_.map c_GApiNode))]))]) mixed [qn0, qn0, qn0, qf0, qf0, qf0, qf0, qf0, qf0, qn (.dec false), qn0, qt0, qt0, qt0, qt0, qt0, qt0, qt0, qt0, qn (.dec true), qn0, qn0, qn0, qn0, qn0, qn0, qn0, qn0, qn0, qn0, qn0, qn0, qn0, qn0, qn0, qn0, qn0, qn0, qn0, qn0] ⟨[1, 3, 46], [], [1], [], [], [], []⟩ (aC hx2 (aC hx2 (aC hx2 (aC hx2 (aC hx2 (aC hx2 (aC hx2 (aC (not_f hx4) (aC (not_f hx4) (aC (not_f hx4) (aC (not_f hx4) (aC (not_f hx4) (aC (not_f hx4) (aC (not_f hx4) (aC (not_f hx4) (aC (not_f hx4) aN)))))))))))))))) (by kernel_rfl) ?_
      refine W_cond true (by kernel_rfl) (fun _ => ?_) (fun hb => nomatch ((rfl : true = true).symm.trans hb))
      refine W_seq ?_
      refine W_y (s' := LS.mk 58 [(2, aB false)] []) mixed [qn0] ⟨[2], [], [], [], [], [], []⟩ aN (by kernel_rfl) ?_
      refine W_ret ?_
      exact kr [] _ _ (by kernel_rfl) (Option.some.inj h)
    · have hx4 : (decide ((w64 ((a0.kids_.length : Int) - 2)) = a0.x_.Num)) = true := (bnot_f hb3)
      have h := if_t h hx4
      obtain ⟨x2_15, hx2_15, h⟩ := bind_ok h
      obtain ⟨r2_17, hr2_17, h⟩ := bind_ok h
      have hr2_17 := tree_block_ok hr2_17
      refine (Bool.eq_false_or_eq_true (!r2_17)).elim (fun hb5 => ?_) (fun hb5 => ?_)
      · have hx6 : r2_17 = false := (bnot_t hb5)
        have h := ib_f h hx6
        refine W_y (s' := LS.mk 58 [(1, .ptr 1 0), (3, aI .i64 (a0.kids_.length : Int)), (46, aB true)] [(1, some (.box 37 [aI .u8 a0.x_.Kind, aI .i64 a0.x_.Line, aI .i64 a0.x_.Col, aI .i64 a0.x_.Size, aI .i64 a0.x_.Num, aS a0.x_.Text, .t (.sl 6 (a0.kids_.map c_GApiNode))]))]) mixed [qn0, qn0, qn0, qf0, qf0, qf0, qf0, qf0, qf0, qn (.dec false), qn0, qf0, qf0, qf0, qf0, qf (.ix (Int.toNat (w64 ((a0.kids_.length : Int) - 1))) (c_GApiNode x2_15)), qf0, qf (.call [] (aB r2_17)), qf0, qn (.dec false), qn0, qt0, qt0, qt0, qt0, qt0, qt0, qt0, qt0, qt0, qn0, qn0, qn0, qn0, qn0, qn0, qn0, qn0, qt0, qn (.dec true)] ⟨[1, 3, 46], [], [1], [], [], [], []⟩ (aC hx2 (aC hx2 (aC hx2 (aC hx2 (aC hx2 (aC hx2 (aC hx2 (aC (not_t hx4) (aC (not_t hx4) (aC (not_t hx4) (aC (not_t hx4) (aC (not_t hx4) (aC (ix_obx c_GApiNode hx2_15) (aC (not_t hx4) (aC (not_t hx4) (aC hr2_17 (aC (not_t hx4) (aC (not_t hx4) (aC (not_f hx6) (aC (not_f hx6) (aC (not_f hx6) (aC (not_f hx6) (aC (not_f hx6) (aC (not_f hx6) (aC (not_f hx6) (aC (not_f hx6) (aC (not_f hx6) (aC (not_f hx6) (aC (not_f hx6) aN))))))))))))))))))))))))))))) (by kernel_rfl) ?_
        refine W_cond true (by kernel_rfl) (fun _ => ?_) (fun hb => nomatch ((rfl : true = true).symm.trans hb))
        refine W_seq ?_
        refine W_y (s' := LS.mk 58 [(2, aB false)] []) mixed [qn0] ⟨[2], [], [], [], [], [], []⟩ aN (by kernel_rfl) ?_
        refine W_ret ?_
        exact kr [] _ _ (by kernel_rfl) (Option.some.inj h)
      · have hx6 : r2_17 = true := (bnot_f hb5)
        have h := ib_t h hx6
        obtain ⟨x2_25, hx2_25, h⟩ := bind_ok h
        refine (Bool.eq_false_or_eq_true (!(decide (x2_25.Kind = 14)))).elim (fun hb7 => ?_) (fun hb7 => ?_)
        · have hx8 : (decide (x2_25.Kind = 14)) = false := (bnot_t hb7)
          have h := if_f h hx8
          obtain ⟨r2_36, hr2_36, h⟩ := bind_ok h
          have hr2_36 := tree_someType_ok hr2_36
          refine W_y (s' := LS.mk 58 [(1, .ptr 1 0), (3, aI .i64 (a0.kids_.length : Int)), (46, aB (!r2_36))] [(1, some (.box 37 [aI .u8 a0.x_.Kind, aI .i64 a0.x_.Line, aI .i64 a0.x_.Col, aI .i64 a0.x_.Size, aI .i64 a0.x_.Num, aS a0.x_.Text, .t (.sl 6 (a0.kids_.map c_GApiNode))]))]) mixed [qn0, qn0, qn0, qf0, qf0, qf0, qf0, qf0, qf0, qn (.dec false), qn0, qf0, qf0, qf0, qf0, qf (.ix (Int.toNat (w64 ((a0.kids_.length : Int) - 1))) (c_GApiNode x2_15)), qf0, qf (.call [] (aB r2_17)), qf0, qn (.dec false), qn0, qf0, qf0, qf0, qf0, qf (.ix (Int.toNat (w64 ((a0.kids_.length : Int) - 2))) (c_GApiNode x2_25)), qf0, qf0, qf0, qf0, qt0, qt0, qt0, qt0, qt (.ix (Int.toNat (w64 ((a0.kids_.length : Int) - 2))) (c_GApiNode x2_25)), qt0, qt (.call [] (aB r2_36)), qt0, qf (.dec true), qn (.dec false)] ⟨[1, 3, 46], [], [1], [], [], [], []⟩ (aC hx2 (aC hx2 (aC hx2 (aC hx2 (aC hx2 (aC hx2 (aC hx2 (aC (not_t hx4) (aC (not_t hx4) (aC (not_t hx4) (aC (not_t hx4) (aC (not_t hx4) (aC (ix_obx c_GApiNode hx2_15) (aC (not_t hx4) (aC (not_t hx4) (aC hr2_17 (aC (not_t hx4) (aC (not_t hx4) (aC (not_t hx6) (aC (not_t hx6) (aC (not_t hx6) (aC (not_t hx6) (aC (not_t hx6) (aC (ix_obx c_GApiNode hx2_25) (aC (not_t hx6) (aC (not_t hx6) (aC (not_t hx6) (aC (not_t hx6) (aC (not_f hx8) (aC (not_f hx8) (aC (not_f hx8) (aC (not_f hx8) (aC (not_f hx8) (aC (ix_obx c_GApiNode hx2_25) (aC (not_f hx8) (aC (not_f hx8) (aC hr2_36 (aC (not_f hx8) (aC (not_t hx6) (aC (not_f hx8) (aC (not_t hx6) aN))))))))))))))))))))))))))))))))))))))))) (by kernel_rfl) ?_
          refine W_cond (!r2_36) (by kernel_rfl) (fun hb9 => ?_) (fun hb9 => ?_)
          · have hx10 : r2_36 = false := (bnot_t hb9)
            have h := ib_f h hx10
            refine W_seq ?_
            refine W_y (s' := LS.mk 58 [(2, aB false)] []) mixed [qn0] ⟨[2], [], [], [], [], [], []⟩ aN (by kernel_rfl) ?_
            refine W_ret ?_
            exact kr [] _ _ (by kernel_rfl) (Option.some.inj h)
          · have hx10 : r2_36 = true := (bnot_f hb9)
            have h := ib_t h hx10
            refine W_skip ?_
            exact W_conv (s' := LS.mk 58 [(1, .ptr 1 0), (3, aI .i64 (a0.kids_.length : Int))] [(1, some (.box 37 [aI .u8 a0.x_.Kind, aI .i64 a0.x_.Line, aI .i64 a0.x_.Col, aI .i64 a0.x_.Size, aI .i64 a0.x_.Num, aS a0.x_.Text, .t (.sl 6 (a0.kids_.map c_GApiNode))]))]) ⟨[1, 3], [], [1], [], [], [], []⟩ (by kernel_rfl) (tree_look_function_j0_ok a0 r_ _ kr h)
        · have hx8 : (decide (x2_25.Kind = 14)) = true := (bnot_f hb7)
          have h := if_t h hx8
          refine W_y (s' := LS.mk 58 [(1, .ptr 1 0), (3, aI .i64 (a0.kids_.length : Int)), (46, aB false)] [(1, some (.box 37 [aI .u8 a0.x_.Kind, aI .i64 a0.x_.Line, aI .i64 a0.x_.Col, aI .i64 a0.x_.Size, aI .i64 a0.x_.Num, aS a0.x_.Text, .t (.sl 6 (a0.kids_.map c_GApiNode))]))]) mixed [qn0, qn0, qn0, qf0, qf0, qf0, qf0, qf0, qf0, qn (.dec false), qn0, qf0, qf0, qf0, qf0, qf (.ix (Int.toNat (w64 ((a0.kids_.length : Int) - 1))) (c_GApiNode x2_15)), qf0, qf (.call [] (aB r2_17)), qf0, qn (.dec false), qn0, qf0, qf0, qf0, qf0, qf (.ix (Int.toNat (w64 ((a0.kids_.length : Int) - 2))) (c_GApiNode x2_25)), qf0, qf0, qf0, qf0, qf0, qf0, qf0, qf0, qf0, qf0, qf0, qf0, qf (.dec false), qn (.dec false)] ⟨[1, 3, 46], [], [1], [], [], [], []⟩ (aC hx2 (aC hx2 (aC hx2 (aC hx2 (aC hx2 (aC hx2 (aC hx2 (aC (not_t hx4) (aC (not_t hx4) (aC (not_t hx4) (aC (not_t hx4) (aC (not_t hx4) (aC (ix_obx c_GApiNode hx2_15) (aC (not_t hx4) (aC (not_t hx4) (aC hr2_17 (aC (not_t hx4) (aC (not_t hx4) (aC (not_t hx6) (aC (not_t hx6) (aC (not_t hx6) (aC (not_t hx6) (aC (not_t hx6) (aC (ix_obx c_GApiNode hx2_25) (aC (not_t hx6) (aC (not_t hx6) (aC (not_t hx6) (aC (not_t hx6) (aC (not_t hx8) (aC (not_t hx8) (aC (not_t hx8) (aC (not_t hx8) (aC (not_t hx8) (aC (not_t hx8) (aC (not_t hx8) (aC (not_t hx8) (aC (not_t hx6) (aC (not_t hx8) (aC (not_t hx6) aN))))))))))))))))))))))))))))))))))))))) (by kernel_rfl) ?_
          refine W_cond false (by kernel_rfl) (fun hb => nomatch ((rfl : false = false).symm.trans hb)) (fun _ => ?_)
          refine W_skip ?_
          exact W_conv (s' := LS.mk 58 [(1, .ptr 1 0), (3, aI .i64 (a0.kids_.length : Int))] [(1, some (.box 37 [aI .u8 a0.x_.Kind, aI .i64 a0.x_.Line, aI .i64 a0.x_.Col, aI .i64 a0.x_.Size, aI .i64 a0.x_.Num, aS a0.x_.Text, .t (.sl 6 (a0.kids_.map c_GApiNode))]))]) ⟨[1, 3], [], [1], [], [], [], []⟩ (by kernel_rfl) (tree_look_function_j0_ok a0 r_ _ kr h)
def R_tree_expression (a0 : GApiNode) (r : Bool) : Prop := FnP Try.prog 47 [e_GApiNode a0] (aB r)
noncomputable def tree_expression (a0 : GApiNode) : Option Bool :=
  ((tree_between 21 32).bind fun (r1_0 : Fv35) => ((r1_0.run a0).bind fun (r1_2 : Bool) => (some r1_2)))
set_option maxRecDepth 100000 in
theorem tree_expression_ok {a0 : GApiNode} {r_ : Bool} (h : tree_expression a0 = some r_) : R_tree_expression a0 r_ := by
  unfold tree_expression at h
  refine fn_pureX (fn := Try.f47) (by kernel_rfl) (c := subC (bodyC Try.prog 47) []) (by kernel_rfl) (by kernel_rfl) (Nat.le_of_ble_eq_true (by kernel_rfl)) ?_
  generalize hQ' : retQ Try.prog Try.f47 (aB r_) = Q'
  have kr : ∀ (ns : List (Nat × Nat × Nat)) (s : LS) (x : Bool), retX Try.prog ns [.tmp 2] s = some (aB x) → x = r_ → Q' .ret s.st := by subst hQ'; intro ns s x hx hq; subst hq; exact ret_ok (fn := Try.f47) ns hx
  change W Try.prog _ (LS.mk 6 [(0, e_GApiNode a0)] []).st Q'
  refine W_seq ?_
  refine W_y (s' := LS.mk 6 [(1, .ptr 1 0)] [(1, some (.box 32 [aI .u8 a0.Kind, aI .i64 a0.Line, aI .i64 a0.Col, aI .i64 a0.Size, aI .i64 a0.Num, aS a0.Text]))]) mixed [qn0, qn0] ⟨[1], [], [1], [], [], [], []⟩ aN (by kernel_rfl) ?_
  refine W_seq ?_
  obtain ⟨r1_0, hr1_0, h⟩ := bind_ok h
  have hr1_0 := tree_between_ok hr1_0
  obtain ⟨r1_2, hr1_2, h⟩ := bind_ok h
  refine W_y (s' := LS.mk 6 [(2, aB r1_2)] []) mixed [qn (.call [] (.t (r1_0.t))), qn0, qn (.callv (aB r1_2)), qn0] ⟨[2], [], [], [], [], [], []⟩ (aC hr1_0 (aC (r1_0.ok _ _ hr1_2) aN)) (by kernel_rfl) ?_
  refine W_ret ?_
  exact kr [] _ _ (by kernel_rfl) (Option.some.inj h)
def R_tree_look_statement (a0 : GTreeLook) (r : Bool) : Prop := FnP Try.prog 46 [e_GTreeLook a0] (aB r)
noncomputable def tree_look_statement (a0 : GTreeLook) : Option Bool :=
  (if a0.x_.Kind = 7 then ((tree_look_row a0 ([(Fv35.mk (.v (.func (.func 43) #[] #[])) (fun b0 => tree_someType b0) (fun b0 br hb => fnc_fn (tree_someType_ok hb))), (Fv35.mk (.v (.func (.func 47) #[] #[])) (fun b0 => tree_expression b0) (fun b0 br hb => fnc_fn (tree_expression_ok hb)))] : List Fv35)).bind fun (r3_2 : Bool) => (some r3_2)) else (if a0.x_.Kind = 8 then ((tree_of ([26, 28, 29] : List Int)).bind fun (r5_2 : Fv35) => ((tree_look_row a0 ([r5_2, (Fv35.mk (.v (.func (.func 47) #[] #[])) (fun b0 => tree_expression b0) (fun b0 br hb => fnc_fn (tree_expression_ok hb)))] : List Fv35)).bind fun (r5_4 : Bool) => (some r5_4))) else (if a0.x_.Kind = 9 then ((tree_look_row a0 ([(Fv35.mk (.v (.func (.func 47) #[] #[])) (fun b0 => tree_expression b0) (fun b0 br hb => fnc_fn (tree_expression_ok hb))), (Fv35.mk (.v (.func (.func 52) #[] #[])) (fun b0 => tree_block b0) (fun b0 br hb => fnc_fn (tree_block_ok hb)))] : List Fv35)).bind fun (r7_2 : Bool) => (if r7_2 = true then (some true) else ((tree_look_row a0 ([(Fv35.mk (.v (.func (.func 47) #[] #[])) (fun b0 => tree_expression b0) (fun b0 br hb => fnc_fn (tree_expression_ok hb))), (Fv35.mk (.v (.func (.func 52) #[] #[])) (fun b0 => tree_block b0) (fun b0 br hb => fnc_fn (tree_block_ok hb))), (Fv35.mk (.v (.func (.func 52) #[] #[])) (fun b0 => tree_block b0) (fun b0 br hb => fnc_fn (tree_block_ok hb)))] : List Fv35)).bind fun (r7_6 : Bool) => (some r7_6)))) else (if a0.x_.Kind = 10 then ((tree_look_row a0 ([(Fv35.mk (.v (.func (.func 47) #[] #[])) (fun b0 => tree_expression b0) (fun b0 br hb => fnc_fn (tree_expression_ok hb))), (Fv35.mk (.v (.func (.func 52) #[] #[])) (fun b0 => tree_block b0) (fun b0 br hb => fnc_fn (tree_block_ok hb)))] : List Fv35)).bind fun (r9_2 : Bool) => (some r9_2)) else (if a0.x_.Kind = 11 then ((tree_look_row a0 ([] : List Fv35)).bind fun (r11_1 : Bool) => (if r11_1 = true then (some true) else ((tree_look_row a0 ([(Fv35.mk (.v (.func (.func 47) #[] #[])) (fun b0 => tree_expression b0) (fun b0 br hb => fnc_fn (tree_expression_ok hb)))] : List Fv35)).bind fun (r11_5 : Bool) => (some r11_5)))) else (if a0.x_.Kind = 12 then ((tree_look_row a0 ([(Fv35.mk (.v (.func (.func 47) #[] #[])) (fun b0 => tree_expression b0) (fun b0 br hb => fnc_fn (tree_expression_ok hb)))] : List Fv35)).bind fun (r13_2 : Bool) => (some r13_2)) else ((tree_of ([27] : List Int)).bind fun (r14_2 : Fv35) => ((tree_look_row a0 ([r14_2] : List Fv35)).bind fun (r14_4 : Bool) => (some r14_4)))))))))
set_option maxRecDepth 100000 in
theorem tree_look_statement_ok {a0 : GTreeLook} {r_ : Bool} (h : tree_look_statement a0 = some r_) : R_tree_look_statement a0 r_ := by
  unfold tree_look_statement at h
  refine fn_pureX (fn := Try.f46) (by kernel_rfl) (c := subC (bodyC Try.prog 46) []) (by kernel_rfl) (by kernel_rfl) (Nat.le_of_ble_eq_true (by kernel_rfl)) ?_
  generalize hQ' : retQ Try.prog Try.f46 (aB r_) = Q'
  have kr : ∀ (ns : List (Nat × Nat × Nat)) (s : LS) (x : Bool), retX Try.prog ns [.tmp 2] s = some (aB x) → x = r_ → Q' .ret s.st := by subst hQ'; intro ns s x hx hq; subst hq; exact ret_ok (fn := Try.f46) ns hx
  change W Try.prog _ (LS.mk 52 [(0, e_GTreeLook a0)] []).st Q'
  refine W_seq ?_
  refine W_y (s' := LS.mk 52 [(1, .ptr 1 0)] [(1, some (.box 37 [aI .u8 a0.x_.Kind, aI .i64 a0.x_.Line, aI .i64 a0.x_.Col, aI .i64 a0.x_.Size, aI .i64 a0.x_.Num, aS a0.x_.Text, .t (.sl 6 (a0.kids_.map c_GApiNode))]))]) mixed [qn0, qn0] ⟨[1], [], [1], [], [], [], []⟩ aN (by kernel_rfl) ?_
  refine W_seq ?_
  refine W_seq ?_
  refine W_y (s' := LS.mk 52 [(1, .ptr 1 0), (5, aI .u8 a0.x_.Kind)] [(1, some (.box 37 [aI .u8 a0.x_.Kind, aI .i64 a0.x_.Line, aI .i64 a0.x_.Col, aI .i64 a0.x_.Size, aI .i64 a0.x_.Num, aS a0.x_.Text, .t (.sl 6 (a0.kids_.map c_GApiNode))]))]) mixed [qn0, qn0, qn0] ⟨[1, 5], [], [1], [], [], [], []⟩ aN (by kernel_rfl) ?_
  refine W_block ?_
  refine W_seq ?_
  refine W_y (s' := LS.mk 52 [(1, .ptr 1 0), (5, aI .u8 a0.x_.Kind), (6, aB (decide (a0.x_.Kind = 7)))] [(1, some (.box 37 [aI .u8 a0.x_.Kind, aI .i64 a0.x_.Line, aI .i64 a0.x_.Col, aI .i64 a0.x_.Size, aI .i64 a0.x_.Num, aS a0.x_.Text, .t (.sl 6 (a0.kids_.map c_GApiNode))]))]) mixed [qn0, qn0] ⟨[1, 5, 6], [], [1], [], [], [], []⟩ aN (by kernel_rfl) ?_
  refine W_cond (decide (a0.x_.Kind = 7)) (by kernel_rfl) (fun hb1 => ?_) (fun hb1 => ?_)
  · have hx2 := hb1
    have h := if_t h hx2
    refine W_seq ?_
    obtain ⟨r3_2, hr3_2, h⟩ := bind_ok h
    have hr3_2 := tree_look_row_ok hr3_2
    refine W_y (s' := LS.mk 52 [(2, aB r3_2)] []) mixed [qn0, qn0, qn (.call [] (aB r3_2)), qn0] ⟨[2], [], [], [], [], [], []⟩ (aC hr3_2 aN) (by kernel_rfl) ?_
    refine W_ret ?_
    exact kr [] _ _ (by kernel_rfl) (Option.some.inj h)
  · have hx2 := hb1
    have h := if_f h hx2
    refine W_seq ?_
    refine W_y (s' := LS.mk 52 [(1, .ptr 1 0), (5, aI .u8 a0.x_.Kind), (11, aB (decide (a0.x_.Kind = 8)))] [(1, some (.box 37 [aI .u8 a0.x_.Kind, aI .i64 a0.x_.Line, aI .i64 a0.x_.Col, aI .i64 a0.x_.Size, aI .i64 a0.x_.Num, aS a0.x_.Text, .t (.sl 6 (a0.kids_.map c_GApiNode))]))]) mixed [qn0, qn0] ⟨[1, 5, 11], [], [1], [], [], [], []⟩ aN (by kernel_rfl) ?_
    refine W_cond (decide (a0.x_.Kind = 8)) (by kernel_rfl) (fun hb3 => ?_) (fun hb3 => ?_)
    · have hx4 := hb3
      have h := if_t h hx4
      refine W_seq ?_
      obtain ⟨r5_2, hr5_2, h⟩ := bind_ok h
      have hr5_2 := tree_of_ok hr5_2
      obtain ⟨r5_4, hr5_4, h⟩ := bind_ok h
      have hr5_4 := tree_look_row_ok hr5_4
      refine W_y (s' := LS.mk 52 [(2, aB r5_4)] []) mixed [qn0, qn (.quiet (.t (.sl 1 (([26, 28, 29] : List Int).map c_u8)))), qn (.call [] (.t (r5_2.t))), qn0, qn (.call [] (aB r5_4)), qn0] ⟨[2], [], [], [], [], [], []⟩ (aC (show Quiet Try.prog (opAt (subC (bodyC Try.prog 46) [1, 0, 1, 0, 1, 1, 1, 0, 0]) 1) [aI .u8 26, aI .u8 28, aI .u8 29] (.t (.sl 1 (([26, 28, 29] : List Int).map c_u8))) from makes_quiet (build_makes (by rfl) ti44 (by rfl) ti5 (by kernel_rfl) (by kernel_rfl) (by kernel_rfl) (by rfl) (by rfl) (by kernel_rfl))) (aC hr5_2 (aC hr5_4 aN))) (by kernel_rfl) ?_
      refine W_ret ?_
      exact kr [] _ _ (by kernel_rfl) (Option.some.inj h)
    · have hx4 := hb3
      have h := if_f h hx4
      refine W_seq ?_
      refine W_y (s' := LS.mk 52 [(1, .ptr 1 0), (5, aI .u8 a0.x_.Kind), (18, aB (decide (a0.x_.Kind = 9)))] [(1, some (.box 37 [aI .u8 a0.x_.Kind, aI .i64 a0.x_.Line, aI .i64 a0.x_.Col, aI .i64 a0.x_.Size, aI .i64 a0.x_.Num, aS a0.x_.Text, .t (.sl 6 (a0.kids_.map c_GApiNode))]))]) mixed [qn0, qn0] ⟨[1, 5, 18], [], [1], [], [], [], []⟩ aN (by kernel_rfl) ?_
      refine W_cond (decide (a0.x_.Kind = 9)) (by kernel_rfl) (fun hb5 => ?_) (fun hb5 => ?_)
      · have hx6 := hb5
        have h := if_t h hx6
        refine W_seq ?_
        obtain ⟨r7_2, hr7_2, h⟩ := bind_ok h
        have hr7_2 := tree_look_row_ok hr7_2
        refine (Bool.eq_false_or_eq_true r7_2).elim (fun hb7 => ?_) (fun hb7 => ?_)
        · have hx8 := hb7
          have h := ib_t h hx8
          refine W_y (s' := LS.mk 52 [(2, aB true)] []) mixed [qn0, qn0, qn (.call [] (aB r7_2)), qn0, qt0, qt0, qt0, qn (.dec true), qn0] ⟨[2], [], [], [], [], [], []⟩ (aC hr7_2 (aC hx8 (aC hx8 (aC hx8 (aC hx8 aN))))) (by kernel_rfl) ?_
          refine W_ret ?_
          exact kr [] _ _ (by kernel_rfl) (Option.some.inj h)
        · have hx8 := hb7
          have h := ib_f h hx8
          obtain ⟨r7_6, hr7_6, h⟩ := bind_ok h
          have hr7_6 := tree_look_row_ok hr7_6
          refine W_y (s' := LS.mk 52 [(2, aB r7_6)] []) mixed [qn0, qn0, qn (.call [] (aB r7_2)), qn0, qf0, qf0, qf (.call [] (aB r7_6)), qn (.dec false), qn0] ⟨[2], [], [], [], [], [], []⟩ (aC hr7_2 (aC hx8 (aC hx8 (aC hx8 (aC hr7_6 (aC hx8 aN)))))) (by kernel_rfl) ?_
          refine W_ret ?_
          exact kr [] _ _ (by kernel_rfl) (Option.some.inj h)
      · have hx6 := hb5
        have h := if_f h hx6
        refine W_seq ?_
        refine W_y (s' := LS.mk 52 [(1, .ptr 1 0), (5, aI .u8 a0.x_.Kind), (28, aB (decide (a0.x_.Kind = 10)))] [(1, some (.box 37 [aI .u8 a0.x_.Kind, aI .i64 a0.x_.Line, aI .i64 a0.x_.Col, aI .i64 a0.x_.Size, aI .i64 a0.x_.Num, aS a0.x_.Text, .t (.sl 6 (a0.kids_.map c_GApiNode))]))]) mixed [qn0, qn0] ⟨[1, 5, 28], [], [1], [], [], [], []⟩ aN (by kernel_rfl) ?_
        refine W_cond (decide (a0.x_.Kind = 10)) (by kernel_rfl) (fun hb9 => ?_) (fun hb9 => ?_)
        · have hx10 := hb9
          have h := if_t h hx10
          refine W_seq ?_
          obtain ⟨r9_2, hr9_2, h⟩ := bind_ok h
          have hr9_2 := tree_look_row_ok hr9_2
          refine W_y (s' := LS.mk 52 [(2, aB r9_2)] []) mixed [qn0, qn0, qn (.call [] (aB r9_2)), qn0] ⟨[2], [], [], [], [], [], []⟩ (aC hr9_2 aN) (by kernel_rfl) ?_
          refine W_ret ?_
          exact kr [] _ _ (by kernel_rfl) (Option.some.inj h)
        · have hx10 := hb9
          have h := if_f h hx10
          refine W_seq ?_
          refine W_y (s' := LS.mk 52 [(1, .ptr 1 0), (5, aI .u8 a0.x_.Kind), (33, aB (decide (a0.x_.Kind = 11)))] [(1, some (.box 37 [aI .u8 a0.x_.Kind, aI .i64 a0.x_.Line, aI .i64 a0.x_.Col, aI .i64 a0.x_.Size, aI .i64 a0.x_.Num, aS a0.x_.Text, .t (.sl 6 (a0.kids_.map c_GApiNode))]))]) mixed [qn0, qn0] ⟨[1, 5, 33], [], [1], [], [], [], []⟩ aN (by kernel_rfl) ?_
          refine W_cond (decide (a0.x_.Kind = 11)) (by kernel_rfl) (fun hb11 => ?_) (fun hb11 => ?_)
          · have hx12 := hb11
            have h := if_t h hx12
            refine W_seq ?_
            obtain ⟨r11_1, hr11_1, h⟩ := bind_ok h
            have hr11_1 := tree_look_row_ok hr11_1
            refine (Bool.eq_false_or_eq_true r11_1).elim (fun hb13 => ?_) (fun hb13 => ?_)
            · have hx14 := hb13
              have h := ib_t h hx14
              refine W_y (s' := LS.mk 52 [(2, aB true)] []) mixed [qn0, qn (.call [(1, 0, 1)] (aB r11_1)), qn0, qt0, qt0, qt0, qn (.dec true), qn0] ⟨[2], [], [], [], [], [], []⟩ (aC hr11_1 (aC hx14 (aC hx14 (aC hx14 (aC hx14 aN))))) (by kernel_rfl) ?_
              refine W_ret ?_
              exact kr [] _ _ (by kernel_rfl) (Option.some.inj h)
            · have hx14 := hb13
              have h := ib_f h hx14
              obtain ⟨r11_5, hr11_5, h⟩ := bind_ok h
              have hr11_5 := tree_look_row_ok hr11_5
              refine W_y (s' := LS.mk 52 [(2, aB r11_5)] []) mixed [qn0, qn (.call [(1, 0, 1)] (aB r11_1)), qn0, qf0, qf0, qf (.call [] (aB r11_5)), qn (.dec false), qn0] ⟨[2], [], [], [], [], [], []⟩ (aC hr11_1 (aC hx14 (aC hx14 (aC hx14 (aC hr11_5 (aC hx14 aN)))))) (by kernel_rfl) ?_
              refine W_ret ?_
              exact kr [] _ _ (by kernel_rfl) (Option.some.inj h)
          · have hx12 := hb11
            have h := if_f h hx12
            refine W_seq ?_
            refine W_y (s' := LS.mk 52 [(1, .ptr 1 0), (42, aB (decide (a0.x_.Kind = 12)))] [(1, some (.box 37 [aI .u8 a0.x_.Kind, aI .i64 a0.x_.Line, aI .i64 a0.x_.Col, aI .i64 a0.x_.Size, aI .i64 a0.x_.Num, aS a0.x_.Text, .t (.sl 6 (a0.kids_.map c_GApiNode))]))]) mixed [qn0, qn0] ⟨[1, 42], [], [1], [], [], [], []⟩ aN (by kernel_rfl) ?_
            refine W_cond (decide (a0.x_.Kind = 12)) (by kernel_rfl) (fun hb15 => ?_) (fun hb15 => ?_)
            · have hx16 := hb15
              have h := if_t h hx16
              refine W_seq ?_
              obtain ⟨r13_2, hr13_2, h⟩ := bind_ok h
              have hr13_2 := tree_look_row_ok hr13_2
              refine W_y (s' := LS.mk 52 [(2, aB r13_2)] []) mixed [qn0, qn0, qn (.call [] (aB r13_2)), qn0] ⟨[2], [], [], [], [], [], []⟩ (aC hr13_2 aN) (by kernel_rfl) ?_
              refine W_ret ?_
              exact kr [] _ _ (by kernel_rfl) (Option.some.inj h)
            · have hx16 := hb15
              have h := if_f h hx16
              refine W_skip ?_
              refine W_seq ?_
              obtain ⟨r14_2, hr14_2, h⟩ := bind_ok h
              have hr14_2 := tree_of_ok hr14_2
              obtain ⟨r14_4, hr14_4, h⟩ := bind_ok h
              have hr14_4 := tree_look_row_ok hr14_4
              refine W_y (s' := LS.mk 52 [(2, aB r14_4)] []) mixed [qn0, qn (.quiet (.t (.sl 1 (([27] : List Int).map c_u8)))), qn (.call [] (.t (r14_2.t))), qn0, qn (.call [] (aB r14_4)), qn0] ⟨[2], [], [], [], [], [], []⟩ (aC (show Quiet Try.prog (opAt (subC (bodyC Try.prog 46) [1, 1, 0]) 1) [aI .u8 27] (.t (.sl 1 (([27] : List Int).map c_u8))) from makes_quiet (build_makes (by rfl) ti44 (by rfl) ti5 (by kernel_rfl) (by kernel_rfl) (by kernel_rfl) (by rfl) (by rfl) (by kernel_rfl))) (aC hr14_2 (aC hr14_4 aN))) (by kernel_rfl) ?_
              refine W_ret ?_
              exact kr [] _ _ (by kernel_rfl) (Option.some.inj h)
def R_tree_look_right (a0 : GTreeLook) (r : Bool) : Prop := FnP Try.prog 32 [e_GTreeLook a0] (aB r)
noncomputable def tree_look_right_j0 (a0 : GTreeLook) : Option Bool :=
  ((tree_look_row a0 ([(Fv35.mk (.v (.func (.func 43) #[] #[])) (fun b0 => tree_someType b0) (fun b0 br hb => fnc_fn (tree_someType_ok hb)))] : List Fv35)).bind fun (r7_2 : Bool) => (some r7_2))
noncomputable def tree_look_right_j1 (a0 : GTreeLook) : Option Bool :=
  ((tree_look_statement a0).bind fun (r19_1 : Bool) => (some r19_1))
noncomputable def tree_look_right_j2 (a0 : GTreeLook) : Option Bool :=
  ((tree_look_row a0 ([(Fv35.mk (.v (.func (.func 47) #[] #[])) (fun b0 => tree_expression b0) (fun b0 br hb => fnc_fn (tree_expression_ok hb))), (Fv35.mk (.v (.func (.func 47) #[] #[])) (fun b0 => tree_expression b0) (fun b0 br hb => fnc_fn (tree_expression_ok hb)))] : List Fv35)).bind fun (r24_2 : Bool) => (some r24_2))
noncomputable def tree_look_right_j3 (a0 : GTreeLook) : Option Bool :=
  ((tree_look_row a0 ([(Fv35.mk (.v (.func (.func 47) #[] #[])) (fun b0 => tree_expression b0) (fun b0 br hb => fnc_fn (tree_expression_ok hb)))] : List Fv35)).bind fun (r27_2 : Bool) => (some r27_2))
noncomputable def tree_look_right_j4 (a0 : GTreeLook) : Option Bool :=
  ((tree_look_row a0 ([] : List Fv35)).bind fun (r42_1 : Bool) => (some r42_1))
set_option maxRecDepth 100000 in
theorem tree_look_right_j0_ok (a0 : GTreeLook) (r_ : Bool) (Q' : Exit → St → Prop) (kr : ∀ (ns : List (Nat × Nat × Nat)) (s : LS) (x : Bool), retX Try.prog ns [.tmp 2] s = some (aB x) → x = r_ → Q' .ret s.st)  (h : tree_look_right_j0 a0 = some r_) : W Try.prog (subC (bodyC Try.prog 32) [1, 0, 1, 0, 1, 1, 1, 0]) (LS.mk 83 [(1, .ptr 1 0)] [(1, some (.box 37 [aI .u8 a0.x_.Kind, aI .i64 a0.x_.Line, aI .i64 a0.x_.Col, aI .i64 a0.x_.Size, aI .i64 a0.x_.Num, aS a0.x_.Text, .t (.sl 6 (a0.kids_.map c_GApiNode))]))]).st Q' := by
  unfold tree_look_right_j0 at h
  refine W_seq ?_
  obtain ⟨r7_2, hr7_2, h⟩ := bind_ok h
  have hr7_2 := tree_look_row_ok hr7_2
  refine W_y (s' := LS.mk 83 [(2, aB r7_2)] []) mixed [qn0, qn0, qn (.call [] (aB r7_2)), qn0] ⟨[2], [], [], [], [], [], []⟩ (aC hr7_2 aN) (by kernel_rfl) ?_
  refine W_ret ?_
  exact kr [] _ _ (by kernel_rfl) (Option.some.inj h)
set_option maxRecDepth 100000 in
theorem tree_look_right_j1_ok (a0 : GTreeLook) (r_ : Bool) (Q' : Exit → St → Prop) (kr : ∀ (ns : List (Nat × Nat × Nat)) (s : LS) (x : Bool), retX Try.prog ns [.tmp 2] s = some (aB x) → x = r_ → Q' .ret s.st)  (h : tree_look_right_j1 a0 = some r_) : W Try.prog (subC (bodyC Try.prog 32) [1, 0, 1, 0, 1, 1, 1, 1, 1, 1, 1, 1, 1, 0]) (LS.mk 83 [(1, .ptr 1 0)] [(1, some (.box 37 [aI .u8 a0.x_.Kind, aI .i64 a0.x_.Line, aI .i64 a0.x_.Col, aI .i64 a0.x_.Size, aI .i64 a0.x_.Num, aS a0.x_.Text, .t (.sl 6 (a0.kids_.map c_GApiNode))]))]).st Q' := by
  unfold tree_look_right_j1 at h
  refine W_seq ?_
  obtain ⟨r19_1, hr19_1, h⟩ := bind_ok h
  have hr19_1 := tree_look_statement_ok hr19_1
  refine W_y (s' := LS.mk 83 [(2, aB r19_1)] []) mixed [qn0, qn (.call [] (aB r19_1)), qn0] ⟨[2], [], [], [], [], [], []⟩ (aC hr19_1 aN) (by kernel_rfl) ?_
  refine W_ret ?_
  exact kr [] _ _ (by kernel_rfl) (Option.some.inj h)
set_option maxRecDepth 100000 in
theorem tree_look_right_j2_ok (a0 : GTreeLook) (r_ : Bool) (Q' : Exit → St → Prop) (kr : ∀ (ns : List (Nat × Nat × Nat)) (s : LS) (x : Bool), retX Try.prog ns [.tmp 2] s = some (aB x) → x = r_ → Q' .ret s.st)  (h : tree_look_right_j2 a0 = some r_) : W Try.prog (subC (bodyC Try.prog 32) [1, 0, 1, 0, 1, 1, 1, 1, 1, 1, 1, 1, 1, 1, 1, 1, 1, 0]) (LS.mk 83 [(1, .ptr 1 0)] [(1, some (.box 37 [aI .u8 a0.x_.Kind, aI .i64 a0.x_.Line, aI .i64 a0.x_.Col, aI .i64 a0.x_.Size, aI .i64 a0.x_.Num, aS a0.x_.Text, .t (.sl 6 (a0.kids_.map c_GApiNode))]))]).st Q' := by
  unfold tree_look_right_j2 at h
  refine W_seq ?_
  obtain ⟨r24_2, hr24_2, h⟩ := bind_ok h
  have hr24_2 := tree_look_row_ok hr24_2
  refine W_y (s' := LS.mk 83 [(2, aB r24_2)] []) mixed [qn0, qn0, qn (.call [] (aB r24_2)), qn0] ⟨[2], [], [], [], [], [], []⟩ (aC hr24_2 aN) (by kernel_rfl) ?_
  refine W_ret ?_
  exact kr [] _ _ (by kernel_rfl) (Option.some.inj h)
set_option maxRecDepth 100000 in
theorem tree_look_right_j3_ok (a0 : GTreeLook) (r_ : Bool) (Q' : Exit → St → Prop) (kr : ∀ (ns : List (Nat × Nat × Nat)) (s : LS) (x : Bool), retX Try.prog ns [.tmp 2] s = some (aB x) → x = r_ → Q' .ret s.st)  (h : tree_look_right_j3 a0 = some r_) : W Try.prog (subC (bodyC Try.prog 32) [1, 0, 1, 0, 1, 1, 1, 1, 1, 1, 1, 1, 1, 1, 1, 1, 1, 1, 1, 0]) (LS.mk 83 [(1, .ptr 1 0)] [(1, some (.box 37 [aI .u8 a0.x_.Kind, aI .i64 a0.x_.Line, aI .i64 a0.x_.Col, aI .i64 a0.x_.Size, aI .i64 a0.x_.Num, aS a0.x_.Text, .t (.sl 6 (a0.kids_.map c_GApiNode))]))]).st Q' := by
  unfold tree_look_right_j3 at h
  refine W_seq ?_
  obtain ⟨r27_2, hr27_2, h⟩ := bind_ok h
  have hr27_2 := tree_look_row_ok hr27_2
  refine W_y (s' := LS.mk 83 [(2, aB r27_2)] []) mixed [qn0, qn0, qn (.call [] (aB r27_2)), qn0] ⟨[2], [], [], [], [], [], []⟩ (aC hr27_2 aN) (by kernel_rfl) ?_
  refine W_ret ?_
  exact kr [] _ _ (by kernel_rfl) (Option.some.inj h)
set_option maxRecDepth 100000 in
theorem tree_look_right_j4_ok (a0 : GTreeLook) (r_ : Bool) (Q' : Exit → St → Prop) (kr : ∀ (ns : List (Nat × Nat × Nat)) (s : LS) (x : Bool), retX Try.prog ns [.tmp 2] s = some (aB x) → x = r_ → Q' .ret s.st)  (h : tree_look_right_j4 a0 = some r_) : W Try.prog (subC (bodyC Try.prog 32) [1, 0, 1, 0, 1, 1, 1, 1, 1, 1, 1, 1, 1, 1, 1, 1, 1, 1, 1, 1, 1, 1, 1, 0]) (LS.mk 83 [(1, .ptr 1 0)] [(1, some (.box 37 [aI .u8 a0.x_.Kind, aI .i64 a0.x_.Line, aI .i64 a0.x_.Col, aI .i64 a0.x_.Size, aI .i64 a0.x_.Num, aS a0.x_.Text, .t (.sl 6 (a0.kids_.map c_GApiNode))]))]).st Q' := by
  unfold tree_look_right_j4 at h
  refine W_seq ?_
  obtain ⟨r42_1, hr42_1, h⟩ := bind_ok h
  have hr42_1 := tree_look_row_ok hr42_1
  refine W_y (s' := LS.mk 83 [(2, aB r42_1)] []) mixed [qn0, qn (.call [(1, 0, 1)] (aB r42_1)), qn0] ⟨[2], [], [], [], [], [], []⟩ (aC hr42_1 aN) (by kernel_rfl) ?_
  refine W_ret ?_
  exact kr [] _ _ (by kernel_rfl) (Option.some.inj h)
noncomputable def tree_look_right (a0 : GTreeLook) : Option Bool :=
  (if a0.x_.Kind = 2 then ((tree_of ([3] : List Int)).bind fun (r3_2 : Fv35) => ((tree_look_all a0 r3_2).bind fun (r3_3 : Bool) => (some r3_3))) else (if a0.x_.Kind = 3 then tree_look_right_j0 a0 else (if a0.x_.Kind = 5 then tree_look_right_j0 a0 else (if a0.x_.Kind = 20 then tree_look_right_j0 a0 else (if a0.x_.Kind = 4 then ((tree_look_function a0).bind fun (r9_1 : Bool) => (some r9_1)) else (if a0.x_.Kind = 6 then ((tree_between 7 13).bind fun (r11_1 : Fv35) => ((tree_look_all a0 r11_1).bind fun (r11_2 : Bool) => (some r11_2))) else (if a0.x_.Kind = 7 then tree_look_right_j1 a0 else (if a0.x_.Kind = 8 then tree_look_right_j1 a0 else (if a0.x_.Kind = 9 then tree_look_right_j1 a0 else (if a0.x_.Kind = 10 then tree_look_right_j1 a0 else (if a0.x_.Kind = 11 then tree_look_right_j1 a0 else (if a0.x_.Kind = 12 then tree_look_right_j1 a0 else (if a0.x_.Kind = 13 then tree_look_right_j1 a0 else (if a0.x_.Kind = 27 then ((tree_look_all a0 (Fv35.mk (.v (.func (.func 47) #[] #[])) (fun b0 => tree_expression b0) (fun b0 br hb => fnc_fn (tree_expression_ok hb)))).bind fun (r21_1 : Bool) => (some r21_1)) else (if a0.x_.Kind = 28 then tree_look_right_j2 a0 else (if a0.x_.Kind = 31 then tree_look_right_j2 a0 else (if a0.x_.Kind = 29 then tree_look_right_j3 a0 else (if a0.x_.Kind = 30 then tree_look_right_j3 a0 else (if a0.x_.Kind = 32 then ((tree_of ([19] : List Int)).bind fun (r29_2 : Fv35) => ((tree_look_row a0 ([r29_2] : List Fv35)).bind fun (r29_4 : Bool) => (if r29_4 = true then (some true) else ((tree_of ([20] : List Int)).bind fun (r29_8 : Fv35) => ((tree_look_row a0 ([r29_8, (Fv35.mk (.v (.func (.func 47) #[] #[])) (fun b0 => tree_expression b0) (fun b0 br hb => fnc_fn (tree_expression_ok hb)))] : List Fv35)).bind fun (r29_10 : Bool) => (some r29_10)))))) else (if a0.x_.Kind = 14 then tree_look_right_j4 a0 else (if a0.x_.Kind = 15 then tree_look_right_j4 a0 else (if a0.x_.Kind = 16 then tree_look_right_j4 a0 else (if a0.x_.Kind = 17 then tree_look_right_j4 a0 else (if a0.x_.Kind = 18 then tree_look_right_j4 a0 else (if a0.x_.Kind = 19 then tree_look_right_j4 a0 else (if a0.x_.Kind = 21 then tree_look_right_j4 a0 else (if a0.x_.Kind = 22 then tree_look_right_j4 a0 else (if a0.x_.Kind = 23 then tree_look_right_j4 a0 else (if a0.x_.Kind = 24 then tree_look_right_j4 a0 else (if a0.x_.Kind = 25 then tree_look_right_j4 a0 else (if a0.x_.Kind = 26 then tree_look_right_j4 a0 else (some false))))))))))))))))))))))))))))))))
set_option maxRecDepth 100000 in
theorem tree_look_right_ok {a0 : GTreeLook} {r_ : Bool} (h : tree_look_right a0 = some r_) : R_tree_look_right a0 r_ := by
  unfold tree_look_right at h
  refine fn_pureX (fn := Try.f32) (by kernel_rfl) (c := subC (bodyC Try.prog 32) []) (by kernel_rfl) (by kernel_rfl) (Nat.le_of_ble_eq_true (by kernel_rfl)) ?_
  generalize hQ' : retQ Try.prog Try.f32 (aB r_) = Q'
  have kr : ∀ (ns : List (Nat × Nat × Nat)) (s : LS) (x : Bool), retX Try.prog ns [.tmp 2] s = some (aB x) → x = r_ → Q' .ret s.st := by subst hQ'; intro ns s x hx hq; subst hq; exact ret_ok (fn := Try.f32) ns hx
  change W Try.prog _ (LS.mk 83 [(0, e_GTreeLook a0)] []).st Q'
  refine W_seq ?_
  refine W_y (s' := LS.mk 83 [(1, .ptr 1 0)] [(1, some (.box 37 [aI .u8 a0.x_.Kind, aI .i64 a0.x_.Line, aI .i64 a0.x_.Col, aI .i64 a0.x_.Size, aI .i64 a0.x_.Num, aS a0.x_.Text, .t (.sl 6 (a0.kids_.map c_GApiNode))]))]) mixed [qn0, qn0] ⟨[1], [], [1], [], [], [], []⟩ aN (by kernel_rfl) ?_
  refine W_seq ?_
  refine W_seq ?_
  refine W_y (s' := LS.mk 83 [(1, .ptr 1 0), (5, aI .u8 a0.x_.Kind)] [(1, some (.box 37 [aI .u8 a0.x_.Kind, aI .i64 a0.x_.Line, aI .i64 a0.x_.Col, aI .i64 a0.x_.Size, aI .i64 a0.x_.Num, aS a0.x_.Text, .t (.sl 6 (a0.kids_.map c_GApiNode))]))]) mixed [qn0, qn0, qn0] ⟨[1, 5], [], [1], [], [], [], []⟩ aN (by kernel_rfl) ?_
  refine W_block ?_
  refine W_seq ?_
  refine W_y (s' := LS.mk 83 [(1, .ptr 1 0), (5, aI .u8 a0.x_.Kind), (6, aB (decide (a0.x_.Kind = 2)))] [(1, some (.box 37 [aI .u8 a0.x_.Kind, aI .i64 a0.x_.Line, aI .i64 a0.x_.Col, aI .i64 a0.x_.Size, aI .i64 a0.x_.Num, aS a0.x_.Text, .t (.sl 6 (a0.kids_.map c_GApiNode))]))]) mixed [qn0, qn0] ⟨[1, 5, 6], [], [1], [], [], [], []⟩ aN (by kernel_rfl) ?_
  refine W_cond (decide (a0.x_.Kind = 2)) (by kernel_rfl) (fun hb1 => ?_) (fun hb1 => ?_)
  · have hx2 := hb1
    have h := if_t h hx2
    refine W_seq ?_
    obtain ⟨r3_2, hr3_2, h⟩ := bind_ok h
    have hr3_2 := tree_of_ok hr3_2
    obtain ⟨r3_3, hr3_3, h⟩ := bind_ok h
    have hr3_3 := tree_look_all_ok hr3_3
    refine W_y (s' := LS.mk 83 [(2, aB r3_3)] []) mixed [qn0, qn (.quiet (.t (.sl 1 (([3] : List Int).map c_u8)))), qn (.call [] (.t (r3_2.t))), qn (.call [] (aB r3_3)), qn0] ⟨[2], [], [], [], [], [], []⟩ (aC (show Quiet Try.prog (opAt (subC (bodyC Try.prog 32) [1, 0, 1, 0, 1, 0, 0]) 1) [aI .u8 3] (.t (.sl 1 (([3] : List Int).map c_u8))) from makes_quiet (build_makes (by rfl) ti44 (by rfl) ti5 (by kernel_rfl) (by kernel_rfl) (by kernel_rfl) (by rfl) (by rfl) (by kernel_rfl))) (aC hr3_2 (aC hr3_3 aN))) (by kernel_rfl) ?_
    refine W_ret ?_
    exact kr [] _ _ (by kernel_rfl) (Option.some.inj h)
  · have hx2 := hb1
    have h := if_f h hx2
    refine W_seq ?_
    refine W_seq ?_
    refine W_y (s' := LS.mk 83 [(1, .ptr 1 0), (5, aI .u8 a0.x_.Kind), (12, aB (decide (a0.x_.Kind = 3)))] [(1, some (.box 37 [aI .u8 a0.x_.Kind, aI .i64 a0.x_.Line, aI .i64 a0.x_.Col, aI .i64 a0.x_.Size, aI .i64 a0.x_.Num, aS a0.x_.Text, .t (.sl 6 (a0.kids_.map c_GApiNode))]))]) mixed [qn0, qn0] ⟨[1, 5, 12], [], [1], [], [], [], []⟩ aN (by kernel_rfl) ?_
    refine W_cond (decide (a0.x_.Kind = 3)) (by kernel_rfl) (fun hb3 => ?_) (fun hb3 => ?_)
    · have hx4 := hb3
      have h := if_t h hx4
      refine W_skip ?_
      refine W_cond (decide (a0.x_.Kind = 3)) (by kernel_rfl) (fun _ => ?_) (fun hb => nomatch ((hx4 : (decide (a0.x_.Kind = 3)) = true).symm.trans hb))
      exact W_conv (s' := LS.mk 83 [(1, .ptr 1 0)] [(1, some (.box 37 [aI .u8 a0.x_.Kind, aI .i64 a0.x_.Line, aI .i64 a0.x_.Col, aI .i64 a0.x_.Size, aI .i64 a0.x_.Num, aS a0.x_.Text, .t (.sl 6 (a0.kids_.map c_GApiNode))]))]) ⟨[1], [], [1], [], [], [], []⟩ (by kernel_rfl) (tree_look_right_j0_ok a0 r_ _ kr h)
    · have hx4 := hb3
      have h := if_f h hx4
      refine W_seq ?_
      refine W_y (s' := LS.mk 83 [(1, .ptr 1 0), (5, aI .u8 a0.x_.Kind), (12, aB (decide (a0.x_.Kind = 5)))] [(1, some (.box 37 [aI .u8 a0.x_.Kind, aI .i64 a0.x_.Line, aI .i64 a0.x_.Col, aI .i64 a0.x_.Size, aI .i64 a0.x_.Num, aS a0.x_.Text, .t (.sl 6 (a0.kids_.map c_GApiNode))]))]) mixed [qn0, qn0] ⟨[1, 5, 12], [], [1], [], [], [], []⟩ aN (by kernel_rfl) ?_
      refine W_cond (decide (a0.x_.Kind = 5)) (by kernel_rfl) (fun hb5 => ?_) (fun hb5 => ?_)
      · have hx6 := hb5
        have h := if_t h hx6
        refine W_skip ?_
        refine W_cond (decide (a0.x_.Kind = 5)) (by kernel_rfl) (fun _ => ?_) (fun hb => nomatch ((hx6 : (decide (a0.x_.Kind = 5)) = true).symm.trans hb))
        exact W_conv (s' := LS.mk 83 [(1, .ptr 1 0)] [(1, some (.box 37 [aI .u8 a0.x_.Kind, aI .i64 a0.x_.Line, aI .i64 a0.x_.Col, aI .i64 a0.x_.Size, aI .i64 a0.x_.Num, aS a0.x_.Text, .t (.sl 6 (a0.kids_.map c_GApiNode))]))]) ⟨[1], [], [1], [], [], [], []⟩ (by kernel_rfl) (tree_look_right_j0_ok a0 r_ _ kr h)
      · have hx6 := hb5
        have h := if_f h hx6
        refine W_y (s' := LS.mk 83 [(1, .ptr 1 0), (5, aI .u8 a0.x_.Kind), (12, aB (decide (a0.x_.Kind = 20)))] [(1, some (.box 37 [aI .u8 a0.x_.Kind, aI .i64 a0.x_.Line, aI .i64 a0.x_.Col, aI .i64 a0.x_.Size, aI .i64 a0.x_.Num, aS a0.x_.Text, .t (.sl 6 (a0.kids_.map c_GApiNode))]))]) mixed [qn0, qn0] ⟨[1, 5, 12], [], [1], [], [], [], []⟩ aN (by kernel_rfl) ?_
        refine W_cond (decide (a0.x_.Kind = 20)) (by kernel_rfl) (fun hb7 => ?_) (fun hb7 => ?_)
        · have hx8 := hb7
          have h := if_t h hx8
          exact W_conv (s' := LS.mk 83 [(1, .ptr 1 0)] [(1, some (.box 37 [aI .u8 a0.x_.Kind, aI .i64 a0.x_.Line, aI .i64 a0.x_.Col, aI .i64 a0.x_.Size, aI .i64 a0.x_.Num, aS a0.x_.Text, .t (.sl 6 (a0.kids_.map c_GApiNode))]))]) ⟨[1], [], [1], [], [], [], []⟩ (by kernel_rfl) (tree_look_right_j0_ok a0 r_ _ kr h)
        · have hx8 := hb7
          have h := if_f h hx8
          refine W_seq ?_
          refine W_y (s' := LS.mk 83 [(1, .ptr 1 0), (5, aI .u8 a0.x_.Kind), (19, aB (decide (a0.x_.Kind = 4)))] [(1, some (.box 37 [aI .u8 a0.x_.Kind, aI .i64 a0.x_.Line, aI .i64 a0.x_.Col, aI .i64 a0.x_.Size, aI .i64 a0.x_.Num, aS a0.x_.Text, .t (.sl 6 (a0.kids_.map c_GApiNode))]))]) mixed [qn0, qn0] ⟨[1, 5, 19], [], [1], [], [], [], []⟩ aN (by kernel_rfl) ?_
          refine W_cond (decide (a0.x_.Kind = 4)) (by kernel_rfl) (fun hb9 => ?_) (fun hb9 => ?_)
          · have hx10 := hb9
            have h := if_t h hx10
            refine W_seq ?_
            obtain ⟨r9_1, hr9_1, h⟩ := bind_ok h
            have hr9_1 := tree_look_function_ok hr9_1
            refine W_y (s' := LS.mk 83 [(2, aB r9_1)] []) mixed [qn0, qn (.call [] (aB r9_1)), qn0] ⟨[2], [], [], [], [], [], []⟩ (aC hr9_1 aN) (by kernel_rfl) ?_
            refine W_ret ?_
            exact kr [] _ _ (by kernel_rfl) (Option.some.inj h)
          · have hx10 := hb9
            have h := if_f h hx10
            refine W_seq ?_
            refine W_y (s' := LS.mk 83 [(1, .ptr 1 0), (5, aI .u8 a0.x_.Kind), (23, aB (decide (a0.x_.Kind = 6)))] [(1, some (.box 37 [aI .u8 a0.x_.Kind, aI .i64 a0.x_.Line, aI .i64 a0.x_.Col, aI .i64 a0.x_.Size, aI .i64 a0.x_.Num, aS a0.x_.Text, .t (.sl 6 (a0.kids_.map c_GApiNode))]))]) mixed [qn0, qn0] ⟨[1, 5, 23], [], [1], [], [], [], []⟩ aN (by kernel_rfl) ?_
            refine W_cond (decide (a0.x_.Kind = 6)) (by kernel_rfl) (fun hb11 => ?_) (fun hb11 => ?_)
            · have hx12 := hb11
              have h := if_t h hx12
              refine W_seq ?_
              obtain ⟨r11_1, hr11_1, h⟩ := bind_ok h
              have hr11_1 := tree_between_ok hr11_1
              obtain ⟨r11_2, hr11_2, h⟩ := bind_ok h
              have hr11_2 := tree_look_all_ok hr11_2
              refine W_y (s' := LS.mk 83 [(2, aB r11_2)] []) mixed [qn0, qn (.call [] (.t (r11_1.t))), qn (.call [] (aB r11_2)), qn0] ⟨[2], [], [], [], [], [], []⟩ (aC hr11_1 (aC hr11_2 aN)) (by kernel_rfl) ?_
              refine W_ret ?_
              exact kr [] _ _ (by kernel_rfl) (Option.some.inj h)
            · have hx12 := hb11
              have h := if_f h hx12
              refine W_seq ?_
              refine W_seq ?_
              refine W_y (s' := LS.mk 83 [(1, .ptr 1 0), (5, aI .u8 a0.x_.Kind), (28, aB (decide (a0.x_.Kind = 7)))] [(1, some (.box 37 [aI .u8 a0.x_.Kind, aI .i64 a0.x_.Line, aI .i64 a0.x_.Col, aI .i64 a0.x_.Size, aI .i64 a0.x_.Num, aS a0.x_.Text, .t (.sl 6 (a0.kids_.map c_GApiNode))]))]) mixed [qn0, qn0] ⟨[1, 5, 28], [], [1], [], [], [], []⟩ aN (by kernel_rfl) ?_
              refine W_cond (decide (a0.x_.Kind = 7)) (by kernel_rfl) (fun hb13 => ?_) (fun hb13 => ?_)
              · have hx14 := hb13
                have h := if_t h hx14
                refine W_skip ?_
                refine W_cond (decide (a0.x_.Kind = 7)) (by kernel_rfl) (fun _ => ?_) (fun hb => nomatch ((hx14 : (decide (a0.x_.Kind = 7)) = true).symm.trans hb))
                exact W_conv (s' := LS.mk 83 [(1, .ptr 1 0)] [(1, some (.box 37 [aI .u8 a0.x_.Kind, aI .i64 a0.x_.Line, aI .i64 a0.x_.Col, aI .i64 a0.x_.Size, aI .i64 a0.x_.Num, aS a0.x_.Text, .t (.sl 6 (a0.kids_.map c_GApiNode))]))]) ⟨[1], [], [1], [], [], [], []⟩ (by kernel_rfl) (tree_look_right_j1_ok a0 r_ _ kr h)
              · have hx14 := hb13
                have h := if_f h hx14
                refine W_seq ?_
                refine W_y (s' := LS.mk 83 [(1, .ptr 1 0), (5, aI .u8 a0.x_.Kind), (28, aB (decide (a0.x_.Kind = 8)))] [(1, some (.box 37 [aI .u8 a0.x_.Kind, aI .i64 a0.x_.Line, aI .i64 a0.x_.Col, aI .i64 a0.x_.Size, aI .i64 a0.x_.Num, aS a0.x_.Text, .t (.sl 6 (a0.kids_.map c_GApiNode))]))]) mixed [qn0, qn0] ⟨[1, 5, 28], [], [1], [], [], [], []⟩ aN (by kernel_rfl) ?_
                refine W_cond (decide (a0.x_.Kind = 8)) (by kernel_rfl) (fun hb15 => ?_) (fun hb15 => ?_)
                · have hx16 := hb15
                  have h := if_t h hx16
                  refine W_skip ?_
                  refine W_cond (decide (a0.x_.Kind = 8)) (by kernel_rfl) (fun _ => ?_) (fun hb => nomatch ((hx16 : (decide (a0.x_.Kind = 8)) = true).symm.trans hb))
                  exact W_conv (s' := LS.mk 83 [(1, .ptr 1 0)] [(1, some (.box 37 [aI .u8 a0.x_.Kind, aI .i64 a0.x_.Line, aI .i64 a0.x_.Col, aI .i64 a0.x_.Size, aI .i64 a0.x_.Num, aS a0.x_.Text, .t (.sl 6 (a0.kids_.map c_GApiNode))]))]) ⟨[1], [], [1], [], [], [], []⟩ (by kernel_rfl) (tree_look_right_j1_ok a0 r_ _ kr h)
                · have hx16 := hb15
                  have h := if_f h hx16
                  refine W_seq ?_
                  refine W_y (s' := LS.mk 83 [(1, .ptr 1 0), (5, aI .u8 a0.x_.Kind), (28, aB (decide (a0.x_.Kind = 9)))] [(1, some (.box 37 [aI .u8 a0.x_.Kind, aI .i64 a0.x_.Line, aI .i64 a0.x_.Col, aI .i64 a0.x_.Size, aI .i64 a0.x_.Num, aS a0.x_.Text, .t (.sl 6 (a0.kids_.map c_GApiNode))]))]) mixed [qn0, qn0] ⟨[1, 5, 28], [], [1], [], [], [], []⟩ aN (by kernel_rfl) ?_
                  refine W_cond (decide (a0.x_.Kind = 9)) (by kernel_rfl) (fun hb17 => ?_) (fun hb17 => ?_)
                  · have hx18 := hb17
                    have h := if_t h hx18
                    refine W_skip ?_
                    refine W_cond (decide (a0.x_.Kind = 9)) (by kernel_rfl) (fun _ => ?_) (fun hb => nomatch ((hx18 : (decide (a0.x_.Kind = 9)) = true).symm.trans hb))
                    exact W_conv (s' := LS.mk 83 [(1, .ptr 1 0)] [(1, some (.box 37 [aI .u8 a0.x_.Kind, aI .i64 a0.x_.Line, aI .i64 a0.x_.Col, aI .i64 a0.x_.Size, aI .i64 a0.x_.Num, aS a0.x_.Text, .t (.sl 6 (a0.kids_.map c_GApiNode))]))]) ⟨[1], [], [1], [], [], [], []⟩ (by kernel_rfl) (tree_look_right_j1_ok a0 r_ _ kr h)
                  · have hx18 := hb17
                    have h := if_f h hx18
                    refine W_seq ?_
                    refine W_y (s' := LS.mk 83 [(1, .ptr 1 0), (5, aI .u8 a0.x_.Kind), (28, aB (decide (a0.x_.Kind = 10)))] [(1, some (.box 37 [aI .u8 a0.x_.Kind, aI .i64 a0.x_.Line, aI .i64 a0.x_.Col, aI .i64 a0.x_.Size, aI .i64 a0.x_.Num, aS a0.x_.Text, .t (.sl 6 (a0.kids_.map c_GApiNode))]))]) mixed [qn0, qn0] ⟨[1, 5, 28], [], [1], [], [], [], []⟩ aN (by kernel_rfl) ?_
                    refine W_cond (decide (a0.x_.Kind = 10)) (by kernel_rfl) (fun hb19 => ?_) (fun hb19 => ?_)
                    · have hx20 := hb19
                      have h := if_t h hx20
                      refine W_skip ?_
                      refine W_cond (decide (a0.x_.Kind = 10)) (by kernel_rfl) (fun _ => ?_) (fun hb => nomatch ((hx20 : (decide (a0.x_.Kind = 10)) = true).symm.trans hb))
                      exact W_conv (s' := LS.mk 83 [(1, .ptr 1 0)] [(1, some (.box 37 [aI .u8 a0.x_.Kind, aI .i64 a0.x_.Line, aI .i64 a0.x_.Col, aI .i64 a0.x_.Size, aI .i64 a0.x_.Num, aS a0.x_.Text, .t (.sl 6 (a0.kids_.map c_GApiNode))]))]) ⟨[1], [], [1], [], [], [], []⟩ (by kernel_rfl) (tree_look_right_j1_ok a0 r_ _ kr h)
                    · have hx20 := hb19
                      have h := if_f h hx20
                      refine W_seq ?_
                      refine W_y (s' := LS.mk 83 [(1, .ptr 1 0), (5, aI .u8 a0.x_.Kind), (28, aB (decide (a0.x_.Kind = 11)))] [(1, some (.box 37 [aI .u8 a0.x_.Kind, aI .i64 a0.x_.Line, aI .i64 a0.x_.Col, aI .i64 a0.x_.Size, aI .i64 a0.x_.Num, aS a0.x_.Text, .t (.sl 6 (a0.kids_.map c_GApiNode))]))]) mixed [qn0, qn0] ⟨[1, 5, 28], [], [1], [], [], [], []⟩ aN (by kernel_rfl) ?_
                      refine W_cond (decide (a0.x_.Kind = 11)) (by kernel_rfl) (fun hb21 => ?_) (fun hb21 => ?_)
                      · have hx22 := hb21
                        have h := if_t h hx22
                        refine W_skip ?_
                        refine W_cond (decide (a0.x_.Kind = 11)) (by kernel_rfl) (fun _ => ?_) (fun hb => nomatch ((hx22 : (decide (a0.x_.Kind = 11)) = true).symm.trans hb))
                        exact W_conv (s' := LS.mk 83 [(1, .ptr 1 0)] [(1, some (.box 37 [aI .u8 a0.x_.Kind, aI .i64 a0.x_.Line, aI .i64 a0.x_.Col, aI .i64 a0.x_.Size, aI .i64 a0.x_.Num, aS a0.x_.Text, .t (.sl 6 (a0.kids_.map c_GApiNode))]))]) ⟨[1], [], [1], [], [], [], []⟩ (by kernel_rfl) (tree_look_right_j1_ok a0 r_ _ kr h)
                      · have hx22 := hb21
                        have h := if_f h hx22
                        refine W_seq ?_
                        refine W_y (s' := LS.mk 83 [(1, .ptr 1 0), (5, aI .u8 a0.x_.Kind), (28, aB (decide (a0.x_.Kind = 12)))] [(1, some (.box 37 [aI .u8 a0.x_.Kind, aI .i64 a0.x_.Line, aI .i64 a0.x_.Col, aI .i64 a0.x_.Size, aI .i64 a0.x_.Num, aS a0.x_.Text, .t (.sl 6 (a0.kids_.map c_GApiNode))]))]) mixed [qn0, qn0] ⟨[1, 5, 28], [], [1], [], [], [], []⟩ aN (by kernel_rfl) ?_
                        refine W_cond (decide (a0.x_.Kind = 12)) (by kernel_rfl) (fun hb23 => ?_) (fun hb23 => ?_)
                        · have hx24 := hb23
                          have h := if_t h hx24
                          refine W_skip ?_
                          refine W_cond (decide (a0.x_.Kind = 12)) (by kernel_rfl) (fun _ => ?_) (fun hb => nomatch ((hx24 : (decide (a0.x_.Kind = 12)) = true).symm.trans hb))
                          exact W_conv (s' := LS.mk 83 [(1, .ptr 1 0)] [(1, some (.box 37 [aI .u8 a0.x_.Kind, aI .i64 a0.x_.Line, aI .i64 a0.x_.Col, aI .i64 a0.x_.Size, aI .i64 a0.x_.Num, aS a0.x_.Text, .t (.sl 6 (a0.kids_.map c_GApiNode))]))]) ⟨[1], [], [1], [], [], [], []⟩ (by kernel_rfl) (tree_look_right_j1_ok a0 r_ _ kr h)
                        · have hx24 := hb23
                          have h := if_f h hx24
                          refine W_y (s' := LS.mk 83 [(1, .ptr 1 0), (5, aI .u8 a0.x_.Kind), (28, aB (decide (a0.x_.Kind = 13)))] [(1, some (.box 37 [aI .u8 a0.x_.Kind, aI .i64 a0.x_.Line, aI .i64 a0.x_.Col, aI .i64 a0.x_.Size, aI .i64 a0.x_.Num, aS a0.x_.Text, .t (.sl 6 (a0.kids_.map c_GApiNode))]))]) mixed [qn0, qn0] ⟨[1, 5, 28], [], [1], [], [], [], []⟩ aN (by kernel_rfl) ?_
                          refine W_cond (decide (a0.x_.Kind = 13)) (by kernel_rfl) (fun hb25 => ?_) (fun hb25 => ?_)
                          · have hx26 := hb25
                            have h := if_t h hx26
                            exact W_conv (s' := LS.mk 83 [(1, .ptr 1 0)] [(1, some (.box 37 [aI .u8 a0.x_.Kind, aI .i64 a0.x_.Line, aI .i64 a0.x_.Col, aI .i64 a0.x_.Size, aI .i64 a0.x_.Num, aS a0.x_.Text, .t (.sl 6 (a0.kids_.map c_GApiNode))]))]) ⟨[1], [], [1], [], [], [], []⟩ (by kernel_rfl) (tree_look_right_j1_ok a0 r_ _ kr h)
                          · have hx26 := hb25
                            have h := if_f h hx26
                            refine W_seq ?_
                            refine W_y (s' := LS.mk 83 [(1, .ptr 1 0), (5, aI .u8 a0.x_.Kind), (38, aB (decide (a0.x_.Kind = 27)))] [(1, some (.box 37 [aI .u8 a0.x_.Kind, aI .i64 a0.x_.Line, aI .i64 a0.x_.Col, aI .i64 a0.x_.Size, aI .i64 a0.x_.Num, aS a0.x_.Text, .t (.sl 6 (a0.kids_.map c_GApiNode))]))]) mixed [qn0, qn0] ⟨[1, 5, 38], [], [1], [], [], [], []⟩ aN (by kernel_rfl) ?_
                            refine W_cond (decide (a0.x_.Kind = 27)) (by kernel_rfl) (fun hb27 => ?_) (fun hb27 => ?_)
                            · have hx28 := hb27
                              have h := if_t h hx28
                              refine W_seq ?_
                              obtain ⟨r21_1, hr21_1, h⟩ := bind_ok h
                              have hr21_1 := tree_look_all_ok hr21_1
                              refine W_y (s' := LS.mk 83 [(2, aB r21_1)] []) mixed [qn0, qn (.call [] (aB r21_1)), qn0] ⟨[2], [], [], [], [], [], []⟩ (aC hr21_1 aN) (by kernel_rfl) ?_
                              refine W_ret ?_
                              exact kr [] _ _ (by kernel_rfl) (Option.some.inj h)
                            · have hx28 := hb27
                              have h := if_f h hx28
                              refine W_seq ?_
                              refine W_seq ?_
                              refine W_y (s' := LS.mk 83 [(1, .ptr 1 0), (5, aI .u8 a0.x_.Kind), (42, aB (decide (a0.x_.Kind = 28)))] [(1, some (.box 37 [aI .u8 a0.x_.Kind, aI .i64 a0.x_.Line, aI .i64 a0.x_.Col, aI .i64 a0.x_.Size, aI .i64 a0.x_.Num, aS a0.x_.Text, .t (.sl 6 (a0.kids_.map c_GApiNode))]))]) mixed [qn0, qn0] ⟨[1, 5, 42], [], [1], [], [], [], []⟩ aN (by kernel_rfl) ?_
                              refine W_cond (decide (a0.x_.Kind = 28)) (by kernel_rfl) (fun hb29 => ?_) (fun hb29 => ?_)
                              · have hx30 := hb29
                                have h := if_t h hx30
                                refine W_skip ?_
                                refine W_cond (decide (a0.x_.Kind = 28)) (by kernel_rfl) (fun _ => ?_) (fun hb => nomatch ((hx30 : (decide (a0.x_.Kind = 28)) = true).symm.trans hb))
                                exact W_conv (s' := LS.mk 83 [(1, .ptr 1 0)] [(1, some (.box 37 [aI .u8 a0.x_.Kind, aI .i64 a0.x_.Line, aI .i64 a0.x_.Col, aI .i64 a0.x_.Size, aI .i64 a0.x_.Num, aS a0.x_.Text, .t (.sl 6 (a0.kids_.map c_GApiNode))]))]) ⟨[1], [], [1], [], [], [], []⟩ (by kernel_rfl) (tree_look_right_j2_ok a0 r_ _ kr h)
                              · have hx30 := hb29
                                have h := if_f h hx30
                                refine W_y (s' := LS.mk 83 [(1, .ptr 1 0), (5, aI .u8 a0.x_.Kind), (42, aB (decide (a0.x_.Kind = 31)))] [(1, some (.box 37 [aI .u8 a0.x_.Kind, aI .i64 a0.x_.Line, aI .i64 a0.x_.Col, aI .i64 a0.x_.Size, aI .i64 a0.x_.Num, aS a0.x_.Text, .t (.sl 6 (a0.kids_.map c_GApiNode))]))]) mixed [qn0, qn0] ⟨[1, 5, 42], [], [1], [], [], [], []⟩ aN (by kernel_rfl) ?_
                                refine W_cond (decide (a0.x_.Kind = 31)) (by kernel_rfl) (fun hb31 => ?_) (fun hb31 => ?_)
                                · have hx32 := hb31
                                  have h := if_t h hx32
                                  exact W_conv (s' := LS.mk 83 [(1, .ptr 1 0)] [(1, some (.box 37 [aI .u8 a0.x_.Kind, aI .i64 a0.x_.Line, aI .i64 a0.x_.Col, aI .i64 a0.x_.Size, aI .i64 a0.x_.Num, aS a0.x_.Text, .t (.sl 6 (a0.kids_.map c_GApiNode))]))]) ⟨[1], [], [1], [], [], [], []⟩ (by kernel_rfl) (tree_look_right_j2_ok a0 r_ _ kr h)
                                · have hx32 := hb31
                                  have h := if_f h hx32
                                  refine W_seq ?_
                                  refine W_seq ?_
                                  refine W_y (s' := LS.mk 83 [(1, .ptr 1 0), (5, aI .u8 a0.x_.Kind), (48, aB (decide (a0.x_.Kind = 29)))] [(1, some (.box 37 [aI .u8 a0.x_.Kind, aI .i64 a0.x_.Line, aI .i64 a0.x_.Col, aI .i64 a0.x_.Size, aI .i64 a0.x_.Num, aS a0.x_.Text, .t (.sl 6 (a0.kids_.map c_GApiNode))]))]) mixed [qn0, qn0] ⟨[1, 5, 48], [], [1], [], [], [], []⟩ aN (by kernel_rfl) ?_
                                  refine W_cond (decide (a0.x_.Kind = 29)) (by kernel_rfl) (fun hb33 => ?_) (fun hb33 => ?_)
                                  · have hx34 := hb33
                                    have h := if_t h hx34
                                    refine W_skip ?_
                                    refine W_cond (decide (a0.x_.Kind = 29)) (by kernel_rfl) (fun _ => ?_) (fun hb => nomatch ((hx34 : (decide (a0.x_.Kind = 29)) = true).symm.trans hb))
                                    exact W_conv (s' := LS.mk 83 [(1, .ptr 1 0)] [(1, some (.box 37 [aI .u8 a0.x_.Kind, aI .i64 a0.x_.Line, aI .i64 a0.x_.Col, aI .i64 a0.x_.Size, aI .i64 a0.x_.Num, aS a0.x_.Text, .t (.sl 6 (a0.kids_.map c_GApiNode))]))]) ⟨[1], [], [1], [], [], [], []⟩ (by kernel_rfl) (tree_look_right_j3_ok a0 r_ _ kr h)
                                  · have hx34 := hb33
                                    have h := if_f h hx34
                                    refine W_y (s' := LS.mk 83 [(1, .ptr 1 0), (5, aI .u8 a0.x_.Kind), (48, aB (decide (a0.x_.Kind = 30)))] [(1, some (.box 37 [aI .u8 a0.x_.Kind, aI .i64 a0.x_.Line, aI .i64 a0.x_.Col, aI .i64 a0.x_.Size, aI .i64 a0.x_.Num, aS a0.x_.Text, .t (.sl 6 (a0.kids_.map c_GApiNode))]))]) mixed [qn0, qn0] ⟨[1, 5, 48], [], [1], [], [], [], []⟩ aN (by kernel_rfl) ?_
                                    refine W_cond (decide (a0.x_.Kind = 30)) (by kernel_rfl) (fun hb35 => ?_) (fun hb35 => ?_)
                                    · have hx36 := hb35
                                      have h := if_t h hx36
                                      exact W_conv (s' := LS.mk 83 [(1, .ptr 1 0)] [(1, some (.box 37 [aI .u8 a0.x_.Kind, aI .i64 a0.x_.Line, aI .i64 a0.x_.Col, aI .i64 a0.x_.Size, aI .i64 a0.x_.Num, aS a0.x_.Text, .t (.sl 6 (a0.kids_.map c_GApiNode))]))]) ⟨[1], [], [1], [], [], [], []⟩ (by kernel_rfl) (tree_look_right_j3_ok a0 r_ _ kr h)
                                    · have hx36 := hb35
                                      have h := if_f h hx36
                                      refine W_seq ?_
                                      refine W_y (s' := LS.mk 83 [(1, .ptr 1 0), (5, aI .u8 a0.x_.Kind), (54, aB (decide (a0.x_.Kind = 32)))] [(1, some (.box 37 [aI .u8 a0.x_.Kind, aI .i64 a0.x_.Line, aI .i64 a0.x_.Col, aI .i64 a0.x_.Size, aI .i64 a0.x_.Num, aS a0.x_.Text, .t (.sl 6 (a0.kids_.map c_GApiNode))]))]) mixed [qn0, qn0] ⟨[1, 5, 54], [], [1], [], [], [], []⟩ aN (by kernel_rfl) ?_
                                      refine W_cond (decide (a0.x_.Kind = 32)) (by kernel_rfl) (fun hb37 => ?_) (fun hb37 => ?_)
                                      · have hx38 := hb37
                                        have h := if_t h hx38
                                        refine W_seq ?_
                                        obtain ⟨r29_2, hr29_2, h⟩ := bind_ok h
                                        have hr29_2 := tree_of_ok hr29_2
                                        obtain ⟨r29_4, hr29_4, h⟩ := bind_ok h
                                        have hr29_4 := tree_look_row_ok hr29_4
                                        refine (Bool.eq_false_or_eq_true r29_4).elim (fun hb39 => ?_) (fun hb39 => ?_)
                                        · have hx40 := hb39
                                          have h := ib_t h hx40
                                          refine W_y (s' := LS.mk 83 [(2, aB true)] []) mixed [qn0, qn (.quiet (.t (.sl 1 (([19] : List Int).map c_u8)))), qn (.call [] (.t (r29_2.t))), qn0, qn (.call [] (aB r29_4)), qn0, qt0, qt0, qt0, qt0, qt0, qn (.dec true), qn0] ⟨[2], [], [], [], [], [], []⟩ (aC (show Quiet Try.prog (opAt (subC (bodyC Try.prog 32) [1, 0, 1, 0, 1, 1, 1, 1, 1, 1, 1, 1, 1, 1, 1, 1, 1, 1, 1, 1, 1, 0, 0]) 1) [aI .u8 19] (.t (.sl 1 (([19] : List Int).map c_u8))) from makes_quiet (build_makes (by rfl) ti44 (by rfl) ti5 (by kernel_rfl) (by kernel_rfl) (by kernel_rfl) (by rfl) (by rfl) (by kernel_rfl))) (aC hr29_2 (aC hr29_4 (aC hx40 (aC hx40 (aC hx40 (aC hx40 (aC hx40 (aC hx40 aN))))))))) (by kernel_rfl) ?_
                                          refine W_ret ?_
                                          exact kr [] _ _ (by kernel_rfl) (Option.some.inj h)
                                        · have hx40 := hb39
                                          have h := ib_f h hx40
                                          obtain ⟨r29_8, hr29_8, h⟩ := bind_ok h
                                          have hr29_8 := tree_of_ok hr29_8
                                          obtain ⟨r29_10, hr29_10, h⟩ := bind_ok h
                                          have hr29_10 := tree_look_row_ok hr29_10
                                          refine W_y (s' := LS.mk 83 [(2, aB r29_10)] []) mixed [qn0, qn (.quiet (.t (.sl 1 (([19] : List Int).map c_u8)))), qn (.call [] (.t (r29_2.t))), qn0, qn (.call [] (aB r29_4)), qn0, qf0, qf (.quiet (.t (.sl 1 (([20] : List Int).map c_u8)))), qf (.call [] (.t (r29_8.t))), qf0, qf (.call [] (aB r29_10)), qn (.dec false), qn0] ⟨[2], [], [], [], [], [], []⟩ (aC (show Quiet Try.prog (opAt (subC (bodyC Try.prog 32) [1, 0, 1, 0, 1, 1, 1, 1, 1, 1, 1, 1, 1, 1, 1, 1, 1, 1, 1, 1, 1, 0, 0]) 1) [aI .u8 19] (.t (.sl 1 (([19] : List Int).map c_u8))) from makes_quiet (build_makes (by rfl) ti44 (by rfl) ti5 (by kernel_rfl) (by kernel_rfl) (by kernel_rfl) (by rfl) (by rfl) (by kernel_rfl))) (aC hr29_2 (aC hr29_4 (aC hx40 (aC hx40 (aC (show Quiet Try.prog (opAt (subC (bodyC Try.prog 32) [1, 0, 1, 0, 1, 1, 1, 1, 1, 1, 1, 1, 1, 1, 1, 1, 1, 1, 1, 1, 1, 0, 0]) 7) [aI .u8 20] (.t (.sl 1 (([20] : List Int).map c_u8))) from makes_quiet (build_makes (by rfl) ti44 (by rfl) ti5 (by kernel_rfl) (by kernel_rfl) (by kernel_rfl) (by rfl) (by rfl) (by kernel_rfl))) (aC hx40 (aC hr29_8 (aC hx40 (aC hx40 (aC hr29_10 (aC hx40 aN)))))))))))) (by kernel_rfl) ?_
                                          refine W_ret ?_
                                          exact kr [] _ _ (by kernel_rfl) (Option.some.inj h)
                                      · have hx38 := hb37
                                        have h := if_f h hx38
                                        refine W_seq ?_
                                        refine W_seq ?_
                                        refine W_y (s' := LS.mk 83 [(1, .ptr 1 0), (5, aI .u8 a0.x_.Kind), (68, aB (decide (a0.x_.Kind = 14)))] [(1, some (.box 37 [aI .u8 a0.x_.Kind, aI .i64 a0.x_.Line, aI .i64 a0.x_.Col, aI .i64 a0.x_.Size, aI .i64 a0.x_.Num, aS a0.x_.Text, .t (.sl 6 (a0.kids_.map c_GApiNode))]))]) mixed [qn0, qn0] ⟨[1, 5, 68], [], [1], [], [], [], []⟩ aN (by kernel_rfl) ?_
                                        refine W_cond (decide (a0.x_.Kind = 14)) (by kernel_rfl) (fun hb41 => ?_) (fun hb41 => ?_)
                                        · have hx42 := hb41
                                          have h := if_t h hx42
                                          refine W_skip ?_
                                          refine W_cond (decide (a0.x_.Kind = 14)) (by kernel_rfl) (fun _ => ?_) (fun hb => nomatch ((hx42 : (decide (a0.x_.Kind = 14)) = true).symm.trans hb))
                                          exact W_conv (s' := LS.mk 83 [(1, .ptr 1 0)] [(1, some (.box 37 [aI .u8 a0.x_.Kind, aI .i64 a0.x_.Line, aI .i64 a0.x_.Col, aI .i64 a0.x_.Size, aI .i64 a0.x_.Num, aS a0.x_.Text, .t (.sl 6 (a0.kids_.map c_GApiNode))]))]) ⟨[1], [], [1], [], [], [], []⟩ (by kernel_rfl) (tree_look_right_j4_ok a0 r_ _ kr h)
                                        · have hx42 := hb41
                                          have h := if_f h hx42
                                          refine W_seq ?_
                                          refine W_y (s' := LS.mk 83 [(1, .ptr 1 0), (5, aI .u8 a0.x_.Kind), (68, aB (decide (a0.x_.Kind = 15)))] [(1, some (.box 37 [aI .u8 a0.x_.Kind, aI .i64 a0.x_.Line, aI .i64 a0.x_.Col, aI .i64 a0.x_.Size, aI .i64 a0.x_.Num, aS a0.x_.Text, .t (.sl 6 (a0.kids_.map c_GApiNode))]))]) mixed [qn0, qn0] ⟨[1, 5, 68], [], [1], [], [], [], []⟩ aN (by kernel_rfl) ?_
                                          refine W_cond (decide (a0.x_.Kind = 15)) (by kernel_rfl) (fun hb43 => ?_) (fun hb43 => ?_)
                                          · have hx44 := hb43
                                            have h := if_t h hx44
                                            refine W_skip ?_
                                            refine W_cond (decide (a0.x_.Kind = 15)) (by kernel_rfl) (fun _ => ?_) (fun hb => nomatch ((hx44 : (decide (a0.x_.Kind = 15)) = true).symm.trans hb))
                                            exact W_conv (s' := LS.mk 83 [(1, .ptr 1 0)] [(1, some (.box 37 [aI .u8 a0.x_.Kind, aI .i64 a0.x_.Line, aI .i64 a0.x_.Col, aI .i64 a0.x_.Size, aI .i64 a0.x_.Num, aS a0.x_.Text, .t (.sl 6 (a0.kids_.map c_GApiNode))]))]) ⟨[1], [], [1], [], [], [], []⟩ (by kernel_rfl) (tree_look_right_j4_ok a0 r_ _ kr h)
                                          · have hx44 := hb43
                                            have h := if_f h hx44
                                            refine W_seq ?_
                                            refine W_y (s' := LS.mk 83 [(1, .ptr 1 0), (5, aI .u8 a0.x_.Kind), (68, aB (decide (a0.x_.Kind = 16)))] [(1, some (.box 37 [aI .u8 a0.x_.Kind, aI .i64 a0.x_.Line, aI .i64 a0.x_.Col, aI .i64 a0.x_.Size, aI .i64 a0.x_.Num, aS a0.x_.Text, .t (.sl 6 (a0.kids_.map c_GApiNode))]))]) mixed [qn0, qn0] ⟨[1, 5, 68], [], [1], [], [], [], []⟩ aN (by kernel_rfl) ?_
                                            refine W_cond (decide (a0.x_.Kind = 16)) (by kernel_rfl) (fun hb45 => ?_) (fun hb45 => ?_)
                                            · have hx46 := hb45
                                              have h := if_t h hx46
                                              refine W_skip ?_
                                              refine W_cond (decide (a0.x_.Kind = 16)) (by kernel_rfl) (fun _ => ?_) (fun hb => nomatch ((hx46 : (decide (a0.x_.Kind = 16)) = true).symm.trans hb))
                                              exact W_conv (s' := LS.mk 83 [(1, .ptr 1 0)] [(1, some (.box 37 [aI .u8 a0.x_.Kind, aI .i64 a0.x_.Line, aI .i64 a0.x_.Col, aI .i64 a0.x_.Size, aI .i64 a0.x_.Num, aS a0.x_.Text, .t (.sl 6 (a0.kids_.map c_GApiNode))]))]) ⟨[1], [], [1], [], [], [], []⟩ (by kernel_rfl) (tree_look_right_j4_ok a0 r_ _ kr h)
                                            · have hx46 := hb45
                                              have h := if_f h hx46
                                              refine W_seq ?_
                                              refine W_y (s' := LS.mk 83 [(1, .ptr 1 0), (5, aI .u8 a0.x_.Kind), (68, aB (decide (a0.x_.Kind = 17)))] [(1, some (.box 37 [aI .u8 a0.x_.Kind, aI .i64 a0.x_.Line, aI .i64 a0.x_.Col, aI .i64 a0.x_.Size, aI .i64 a0.x_.Num, aS a0.x_.Text, .t (.sl 6 (a0.kids_.map c_GApiNode))]))]) mixed [qn0, qn0] ⟨[1, 5, 68], [], [1], [], [], [], []⟩ aN (by kernel_rfl) ?_
                                              refine W_cond (decide (a0.x_.Kind = 17)) (by kernel_rfl) (fun hb47 => ?_) (fun hb47 => ?_)
                                              · have hx48 := hb47
                                                have h := if_t h hx48
                                                refine W_skip ?_
                                                refine W_cond (decide (a0.x_.Kind = 17)) (by kernel_rfl) (fun _ => ?_) (fun hb => nomatch ((hx48 : (decide (a0.x_.Kind = 17)) = true).symm.trans hb))
                                                exact W_conv (s' := LS.mk 83 [(1, .ptr 1 0)] [(1, some (.box 37 [aI .u8 a0.x_.Kind, aI .i64 a0.x_.Line, aI .i64 a0.x_.Col, aI .i64 a0.x_.Size, aI .i64 a0.x_.Num, aS a0.x_.Text, .t (.sl 6 (a0.kids_.map c_GApiNode))]))]) ⟨[1], [], [1], [], [], [], []⟩ (by kernel_rfl) (tree_look_right_j4_ok a0 r_ _ kr h)
                                              · have hx48 := hb47
                                                have h := if_f h hx48
                                                refine W_seq ?_
                                                refine W_y (s' := LS.mk 83 [(1, .ptr 1 0), (5, aI .u8 a0.x_.Kind), (68, aB (decide (a0.x_.Kind = 18)))] [(1, some (.box 37 [aI .u8 a0.x_.Kind, aI .i64 a0.x_.Line, aI .i64 a0.x_.Col, aI .i64 a0.x_.Size, aI .i64 a0.x_.Num, aS a0.x_.Text, .t (.sl 6 (a0.kids_.map c_GApiNode))]))]) mixed [qn0, qn0] ⟨[1, 5, 68], [], [1], [], [], [], []⟩ aN (by kernel_rfl) ?_
                                                refine W_cond (decide (a0.x_.Kind = 18)) (by kernel_rfl) (fun hb49 => ?_) (fun hb49 => ?_)
                                                · have hx50 := hb49
                                                  have h := if_t h hx50
                                                  refine W_skip ?_
                                                  refine W_cond (decide (a0.x_.Kind = 18)) (by kernel_rfl) (fun _ => ?_) (fun hb => nomatch ((hx50 : (decide (a0.x_.Kind = 18)) = true).symm.trans hb))
                                                  exact W_conv (s' := LS.mk 83 [(1, .ptr 1 0)] [(1, some (.box 37 [aI .u8 a0.x_.Kind, aI .i64 a0.x_.Line, aI .i64 a0.x_.Col, aI .i64 a0.x_.Size, aI .i64 a0.x_.Num, aS a0.x_.Text, .t (.sl 6 (a0.kids_.map c_GApiNode))]))]) ⟨[1], [], [1], [], [], [], []⟩ (by kernel_rfl) (tree_look_right_j4_ok a0 r_ _ kr h)
                                                · have hx50 := hb49
                                                  have h := if_f h hx50
                                                  refine W_seq ?_
                                                  refine W_y (s' := LS.mk 83 [(1, .ptr 1 0), (5, aI .u8 a0.x_.Kind), (68, aB (decide (a0.x_.Kind = 19)))] [(1, some (.box 37 [aI .u8 a0.x_.Kind, aI .i64 a0.x_.Line, aI .i64 a0.x_.Col, aI .i64 a0.x_.Size, aI .i64 a0.x_.Num, aS a0.x_.Text, .t (.sl 6 (a0.kids_.map c_GApiNode))]))]) mixed [qn0, qn0] ⟨[1, 5, 68], [], [1], [], [], [], []⟩ aN (by kernel_rfl) ?_
                                                  refine W_cond (decide (a0.x_.Kind = 19)) (by kernel_rfl) (fun hb51 => ?_) (fun hb51 => ?_)
                                                  · have hx52 := hb51
                                                    have h := if_t h hx52
                                                    refine W_skip ?_
                                                    refine W_cond (decide (a0.x_.Kind = 19)) (by kernel_rfl) (fun _ => ?_) (fun hb => nomatch ((hx52 : (decide (a0.x_.Kind = 19)) = true).symm.trans hb))
                                                    exact W_conv (s' := LS.mk 83 [(1, .ptr 1 0)] [(1, some (.box 37 [aI .u8 a0.x_.Kind, aI .i64 a0.x_.Line, aI .i64 a0.x_.Col, aI .i64 a0.x_.Size, aI .i64 a0.x_.Num, aS a0.x_.Text, .t (.sl 6 (a0.kids_.map c_GApiNode))]))]) ⟨[1], [], [1], [], [], [], []⟩ (by kernel_rfl) (tree_look_right_j4_ok a0 r_ _ kr h)
                                                  · have hx52 := hb51
                                                    have h := if_f h hx52
                                                    refine W_seq ?_
                                                    refine W_y (s' := LS.mk 83 [(1, .ptr 1 0), (5, aI .u8 a0.x_.Kind), (68, aB (decide (a0.x_.Kind = 21)))] [(1, some (.box 37 [aI .u8 a0.x_.Kind, aI .i64 a0.x_.Line, aI .i64 a0.x_.Col, aI .i64 a0.x_.Size, aI .i64 a0.x_.Num, aS a0.x_.Text, .t (.sl 6 (a0.kids_.map c_GApiNode))]))]) mixed [qn0, qn0] ⟨[1, 5, 68], [], [1], [], [], [], []⟩ aN (by kernel_rfl) ?_
                                                    refine W_cond (decide (a0.x_.Kind = 21)) (by kernel_rfl) (fun hb53 => ?_) (fun hb53 => ?_)
                                                    · have hx54 := hb53
                                                      have h := if_t h hx54
                                                      refine W_skip ?_
                                                      refine W_cond (decide (a0.x_.Kind = 21)) (by kernel_rfl) (fun _ => ?_) (fun hb => nomatch ((hx54 : (decide (a0.x_.Kind = 21)) = true).symm.trans hb))
                                                      exact W_conv (s' := LS.mk 83 [(1, .ptr 1 0)] [(1, some (.box 37 [aI .u8 a0.x_.Kind, aI .i64 a0.x_.Line, aI .i64 a0.x_.Col, aI .i64 a0.x_.Size, aI .i64 a0.x_.Num, aS a0.x_.Text, .t (.sl 6 (a0.kids_.map c_GApiNode))]))]) ⟨[1], [], [1], [], [], [], []⟩ (by kernel_rfl) (tree_look_right_j4_ok a0 r_ _ kr h)
                                                    · have hx54 := hb53
                                                      have h := if_f h hx54
                                                      refine W_seq ?_
                                                      refine W_y (s' := LS.mk 83 [(1, .ptr 1 0), (5, aI .u8 a0.x_.Kind), (68, aB (decide (a0.x_.Kind = 22)))] [(1, some (.box 37 [aI .u8 a0.x_.Kind, aI .i64 a0.x_.Line, aI .i64 a0.x_.Col, aI .i64 a0.x_.Size, aI .i64 a0.x_.Num, aS a0.x_.Text, .t (.sl 6 (a0.kids_.map c_GApiNode))]))]) mixed [qn0, qn0] ⟨[1, 5, 68], [], [1], [], [], [], []⟩ aN (by kernel_rfl) ?_
                                                      refine W_cond (decide (a0.x_.Kind = 22)) (by kernel_rfl) (fun hb55 => ?_) (fun hb55 => ?_)
                                                      · have hx56 := hb55
                                                        have h := if_t h hx56
                                                        refine W_skip ?_
                                                        refine W_cond (decide (a0.x_.Kind = 22)) (by kernel_rfl) (fun _ => ?_) (fun hb => nomatch ((hx56 : (decide (a0.x_.Kind = 22)) = true).symm.trans hb))
                                                        exact W_conv (s' := LS.mk 83 [(1, .ptr 1 0)] [(1, some (.box 37 [aI .u8 a0.x_.Kind, aI .i64 a0.x_.Line, aI .i64 a0.x_.Col, aI .i64 a0.x_.Size, aI .i64 a0.x_.Num, aS a0.x_.Text, .t (.sl 6 (a0.kids_.map c_GApiNode))]))]) ⟨[1], [], [1], [], [], [], []⟩ (by kernel_rfl) (tree_look_right_j4_ok a0 r_ _ kr h)
                                                      · have hx56 := hb55
                                                        have h := if_f h hx56
                                                        refine W_seq ?_
                                                        refine W_y (s' := LS.mk 83 [(1, .ptr 1 0), (5, aI .u8 a0.x_.Kind), (68, aB (decide (a0.x_.Kind = 23)))] [(1, some (.box 37 [aI .u8 a0.x_.Kind, aI .i64 a0.x_.Line, aI .i64 a0.x_.Col, aI .i64 a0.x_.Size, aI .i64 a0.x_.Num, aS a0.x_.Text, .t (.sl 6 (a0.kids_.map c_GApiNode))]))]) mixed [qn0, qn0] ⟨[1, 5, 68], [], [1], [], [], [], []⟩ aN (by kernel_rfl) ?_
                                                        refine W_cond (decide (a0.x_.Kind = 23)) (by kernel_rfl) (fun hb57 => ?_) (fun hb57 => ?_)
                                                        · have hx58 := hb57
                                                          have h := if_t h hx58
                                                          refine W_skip ?_
                                                          refine W_cond (decide (a0.x_.Kind = 23)) (by kernel_rfl) (fun _ => ?_) (fun hb => nomatch ((hx58 : (decide (a0.x_.Kind = 23)) = true).symm.trans hb))
                                                          exact W_conv (s' := LS.mk 83 [(1, .ptr 1 0)] [(1, some (.box 37 [aI .u8 a0.x_.Kind, aI .i64 a0.x_.Line, aI .i64 a0.x_.Col, aI .i64 a0.x_.Size, aI .i64 a0.x_.Num, aS a0.x_.Text, .t (.sl 6 (a0.kids_.map c_GApiNode))]))]) ⟨[1], [], [1], [], [], [], []⟩ (by kernel_rfl) (tree_look_right_j4_ok a0 r_ _ kr h)
                                                        · have hx58 := hb57
                                                          have h := if_f h hx58
                                                          refine W_seq ?_
                                                          refine W_y (s' := LS.mk 83 [(1, .ptr 1 0), (5, aI .u8 a0.x_.Kind), (68, aB (decide (a0.x_.Kind = 24)))] [(1, some (.box 37 [aI .u8 a0.x_.Kind, aI .i64 a0.x_.Line, aI .i64 a0.x_.Col, aI .i64 a0.x_.Size, aI .i64 a0.x_.Num, aS a0.x_.Text, .t (.sl 6 (a0.kids_.map c_GApiNode))]))]) mixed [qn0, qn0] ⟨[1, 5, 68], [], [1], [], [], [], []⟩ aN (by kernel_rfl) ?_
                                                          refine W_cond (decide (a0.x_.Kind = 24)) (by kernel_rfl) (fun hb59 => ?_) (fun hb59 => ?_)
                                                          · have hx60 := hb59
                                                            have h := if_t h hx60
                                                            refine W_skip ?_
                                                            refine W_cond (decide (a0.x_.Kind = 24)) (by kernel_rfl) (fun _ => ?_) (fun hb => nomatch ((hx60 : (decide (a0.x_.Kind = 24)) = true).symm.trans hb))
                                                            exact W_conv (s' := LS.mk 83 [(1, .ptr 1 0)] [(1, some (.box 37 [aI .u8 a0.x_.Kind, aI .i64 a0.x_.Line, aI .i64 a0.x_.Col, aI .i64 a0.x_.Size, aI .i64 a0.x_.Num, aS a0.x_.Text, .t (.sl 6 (a0.kids_.map c_GApiNode))]))]) ⟨[1], [], [1], [], [], [], []⟩ (by kernel_rfl) (tree_look_right_j4_ok a0 r_ _ kr h)
                                                          · have hx60 := hb59
                                                            have h := if_f h hx60
                                                            refine W_seq ?_
                                                            refine W_y (s' := LS.mk 83 [(1, .ptr 1 0), (5, aI .u8 a0.x_.Kind), (68, aB (decide (a0.x_.Kind = 25)))] [(1, some (.box 37 [aI .u8 a0.x_.Kind, aI .i64 a0.x_.Line, aI .i64 a0.x_.Col, aI .i64 a0.x_.Size, aI .i64 a0.x_.Num, aS a0.x_.Text, .t (.sl 6 (a0.kids_.map c_GApiNode))]))]) mixed [qn0, qn0] ⟨[1, 5, 68], [], [1], [], [], [], []⟩ aN (by kernel_rfl) ?_
                                                            refine W_cond (decide (a0.x_.Kind = 25)) (by kernel_rfl) (fun hb61 => ?_) (fun hb61 => ?_)
                                                            · have hx62 := hb61
                                                              have h := if_t h hx62
                                                              refine W_skip ?_
                                                              refine W_cond (decide (a0.x_.Kind = 25)) (by kernel_rfl) (fun _ => ?_) (fun hb => nomatch ((hx62 : (decide (a0.x_.Kind = 25)) = true).symm.trans hb))
                                                              exact W_conv (s' := LS.mk 83 [(1, .ptr 1 0)] [(1, some (.box 37 [aI .u8 a0.x_.Kind, aI .i64 a0.x_.Line, aI .i64 a0.x_.Col, aI .i64 a0.x_.Size, aI .i64 a0.x_.Num, aS a0.x_.Text, .t (.sl 6 (a0.kids_.map c_GApiNode))]))]) ⟨[1], [], [1], [], [], [], []⟩ (by kernel_rfl) (tree_look_right_j4_ok a0 r_ _ kr h)
                                                            · have hx62 := hb61
                                                              have h := if_f h hx62
                                                              refine W_y (s' := LS.mk 83 [(1, .ptr 1 0), (68, aB (decide (a0.x_.Kind = 26)))] [(1, some (.box 37 [aI .u8 a0.x_.Kind, aI .i64 a0.x_.Line, aI .i64 a0.x_.Col, aI .i64 a0.x_.Size, aI .i64 a0.x_.Num, aS a0.x_.Text, .t (.sl 6 (a0.kids_.map c_GApiNode))]))]) mixed [qn0, qn0] ⟨[1, 68], [], [1], [], [], [], []⟩ aN (by kernel_rfl) ?_
                                                              refine W_cond (decide (a0.x_.Kind = 26)) (by kernel_rfl) (fun hb63 => ?_) (fun hb63 => ?_)
                                                              · have hx64 := hb63
                                                                have h := if_t h hx64
                                                                exact W_conv (s' := LS.mk 83 [(1, .ptr 1 0)] [(1, some (.box 37 [aI .u8 a0.x_.Kind, aI .i64 a0.x_.Line, aI .i64 a0.x_.Col, aI .i64 a0.x_.Size, aI .i64 a0.x_.Num, aS a0.x_.Text, .t (.sl 6 (a0.kids_.map c_GApiNode))]))]) ⟨[1], [], [1], [], [], [], []⟩ (by kernel_rfl) (tree_look_right_j4_ok a0 r_ _ kr h)
                                                              · have hx64 := hb63
                                                                have h := if_f h hx64
                                                                refine W_skip ?_
                                                                refine W_seq ?_
                                                                refine W_y (s' := LS.mk 83 [(2, aB false)] []) mixed [qn0] ⟨[2], [], [], [], [], [], []⟩ aN (by kernel_rfl) ?_
                                                                refine W_ret ?_
                                                                exact kr [] _ _ (by kernel_rfl) (Option.some.inj h)
end Go.Proofs.Ytahioekdpndohaa
