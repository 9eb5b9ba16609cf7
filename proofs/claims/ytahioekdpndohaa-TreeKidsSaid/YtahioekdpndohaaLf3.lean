/- Functions of the program, lifted. -/
import Derived.Test.YtahioekdpndohaaLf2
namespace Go.Proofs.Ytahioekdpndohaa
open Go.RowKit
set_option linter.unusedVariables false
set_option maxHeartbeats 4000000
def R_tree_look_right (a0 : GTreeLook) (r : Bool) : Prop := FnP Try.prog 32 [e_GTreeLook a0] (aB r)
noncomputable def tree_look_right_j0 (a0 : GTreeLook) : Option Bool :=
  ((tree_look_row a0 ([(Fv35.mk (.v (.func (.func 43) #[] #[])) (fun b0 => tree_someType b0) (fun b0 br hb => fnc_fn (tree_someType_ok hb)))] : List Fv35)).bind fun (r7_2 : Bool) => (some r7_2))
noncomputable def tree_look_right_j1 (a0 : GTreeLook) : Option Bool :=
  ((tree_look_statement a0).bind fun (r19_1 : Bool) => (some r19_1))
noncomputable def tree_look_right_j2 (a0 : GTreeLook) : Option Bool :=
  ((tree_look_row a0 ([(Fv35.mk (.v (.func (.func 47) #[] #[])) (fun b0 => tree_expression b0) (fun b0 br hb => fnc_fn (tree_expression_ok hb))), (Fv35.mk (.v (.func (.func 47) #[] #[])) (fun b0 => tree_expression b0) (fun b0 br hb => fnc_fn (tree_expression_ok hb)))] : List Fv35)).bind fun (r24_2 : Bool) => (some r24_2))
noncomputable def tree_look_right_j3 (a0 : GTreeLook) : Option Bool :=
  ((tree_look_row a0 ([(Fv35.mk (.v (.func (.func 47) #[] #[])) (fun b0 => tree_expression b0) (fun b0 br hb => fnc_fn (tree_expression_ok hb)))] : List Fv35)).bind fun (r27_2 : Bool) => (some r27_2))
noncomputable def tree_look_right_j4 (a0 : GTreeLook) : Option Bool :=
  ((tree_look_row a0 ([] : List Fv35)).bind fun (r42_1 : Bool) => (some r42_1))
set_option maxRecDepth 100000 in
theorem tree_look_right_j0_ok (a0 : GTreeLook) (r_ : Bool) (Q' : Exit → St → Prop) (kr : ∀ (ns : List (Nat × Nat × Nat)) (s : LS) (x : Bool), retX Try.prog ns [.tmp 2] s = some (aB x) → x = r_ → Q' .ret s.st)  (h : tree_look_right_j0 a0 = some r_) : W Try.prog (subC (bodyC Try.prog 32) [1, 0, 1, 0, 1, 1, 1, 0]) (LS.mk 83 [(1, .ptr 1 0)] [(1, some (.box 37 [aI .u8 a0.x_.Kind, aI .i64 a0.x_.Line, aI .i64 a0.x_.Col, aI .i64 a0.x_.Size, aI .i64 a0.x_.Num, aS a0.x_.Text, .t (.sl 6 (a0.kids_.map c_GApiNode))]))]).st Q' := by
  unfold tree_look_right_j0 at h
  refine W_seq ?_
  obtain ⟨r7_2, hr7_2, h⟩ := bind_ok h
  have hr7_2 := tree_look_row_ok hr7_2
  refine W_x (s' := LS.mk 83 [(2, aB r7_2)] []) mixed [(none, [], .no), (none, [], .no), (none, [], .call [] (aB r7_2)), (none, [], .no)] ⟨[2], [], [], [], [], [], []⟩ [R_tree_look_row a0 ([(Fv35.mk (.v (.func (.func 43) #[] #[])) (fun b0 => tree_someType b0) (fun b0 br hb => fnc_fn (tree_someType_ok hb)))] : List Fv35) r7_2] (by kernel_rfl) ⟨hr7_2, trivial⟩ ?_
  refine W_ret ?_
  exact kr [] _ _ (by kernel_rfl) (Option.some.inj h)
set_option maxRecDepth 100000 in
theorem tree_look_right_j1_ok (a0 : GTreeLook) (r_ : Bool) (Q' : Exit → St → Prop) (kr : ∀ (ns : List (Nat × Nat × Nat)) (s : LS) (x : Bool), retX Try.prog ns [.tmp 2] s = some (aB x) → x = r_ → Q' .ret s.st)  (h : tree_look_right_j1 a0 = some r_) : W Try.prog (subC (bodyC Try.prog 32) [1, 0, 1, 0, 1, 1, 1, 1, 1, 1, 1, 1, 1, 0]) (LS.mk 83 [(1, .ptr 1 0)] [(1, some (.box 37 [aI .u8 a0.x_.Kind, aI .i64 a0.x_.Line, aI .i64 a0.x_.Col, aI .i64 a0.x_.Size, aI .i64 a0.x_.Num, aS a0.x_.Text, .t (.sl 6 (a0.kids_.map c_GApiNode))]))]).st Q' := by
  unfold tree_look_right_j1 at h
  refine W_seq ?_
  obtain ⟨r19_1, hr19_1, h⟩ := bind_ok h
  have hr19_1 := tree_look_statement_ok hr19_1
  refine W_x (s' := LS.mk 83 [(2, aB r19_1)] []) mixed [(none, [], .no), (none, [], .call [] (aB r19_1)), (none, [], .no)] ⟨[2], [], [], [], [], [], []⟩ [R_tree_look_statement a0 r19_1] (by kernel_rfl) ⟨hr19_1, trivial⟩ ?_
  refine W_ret ?_
  exact kr [] _ _ (by kernel_rfl) (Option.some.inj h)
set_option maxRecDepth 100000 in
theorem tree_look_right_j2_ok (a0 : GTreeLook) (r_ : Bool) (Q' : Exit → St → Prop) (kr : ∀ (ns : List (Nat × Nat × Nat)) (s : LS) (x : Bool), retX Try.prog ns [.tmp 2] s = some (aB x) → x = r_ → Q' .ret s.st)  (h : tree_look_right_j2 a0 = some r_) : W Try.prog (subC (bodyC Try.prog 32) [1, 0, 1, 0, 1, 1, 1, 1, 1, 1, 1, 1, 1, 1, 1, 1, 1, 0]) (LS.mk 83 [(1, .ptr 1 0)] [(1, some (.box 37 [aI .u8 a0.x_.Kind, aI .i64 a0.x_.Line, aI .i64 a0.x_.Col, aI .i64 a0.x_.Size, aI .i64 a0.x_.Num, aS a0.x_.Text, .t (.sl 6 (a0.kids_.map c_GApiNode))]))]).st Q' := by
  unfold tree_look_right_j2 at h
  refine W_seq ?_
  obtain ⟨r24_2, hr24_2, h⟩ := bind_ok h
  have hr24_2 := tree_look_row_ok hr24_2
  refine W_x (s' := LS.mk 83 [(2, aB r24_2)] []) mixed [(none, [], .no), (none, [], .no), (none, [], .call [] (aB r24_2)), (none, [], .no)] ⟨[2], [], [], [], [], [], []⟩ [R_tree_look_row a0 ([(Fv35.mk (.v (.func (.func 47) #[] #[])) (fun b0 => tree_expression b0) (fun b0 br hb => fnc_fn (tree_expression_ok hb))), (Fv35.mk (.v (.func (.func 47) #[] #[])) (fun b0 => tree_expression b0) (fun b0 br hb => fnc_fn (tree_expression_ok hb)))] : List Fv35) r24_2] (by kernel_rfl) ⟨hr24_2, trivial⟩ ?_
  refine W_ret ?_
  exact kr [] _ _ (by kernel_rfl) (Option.some.inj h)
set_option maxRecDepth 100000 in
theorem tree_look_right_j3_ok (a0 : GTreeLook) (r_ : Bool) (Q' : Exit → St → Prop) (kr : ∀ (ns : List (Nat × Nat × Nat)) (s : LS) (x : Bool), retX Try.prog ns [.tmp 2] s = some (aB x) → x = r_ → Q' .ret s.st)  (h : tree_look_right_j3 a0 = some r_) : W Try.prog (subC (bodyC Try.prog 32) [1, 0, 1, 0, 1, 1, 1, 1, 1, 1, 1, 1, 1, 1, 1, 1, 1, 1, 1, 0]) (LS.mk 83 [(1, .ptr 1 0)] [(1, some (.box 37 [aI .u8 a0.x_.Kind, aI .i64 a0.x_.Line, aI .i64 a0.x_.Col, aI .i64 a0.x_.Size, aI .i64 a0.x_.Num, aS a0.x_.Text, .t (.sl 6 (a0.kids_.map c_GApiNode))]))]).st Q' := by
  unfold tree_look_right_j3 at h
  refine W_seq ?_
  obtain ⟨r27_2, hr27_2, h⟩ := bind_ok h
  have hr27_2 := tree_look_row_ok hr27_2
  refine W_x (s' := LS.mk 83 [(2, aB r27_2)] []) mixed [(none, [], .no), (none, [], .no), (none, [], .call [] (aB r27_2)), (none, [], .no)] ⟨[2], [], [], [], [], [], []⟩ [R_tree_look_row a0 ([(Fv35.mk (.v (.func (.func 47) #[] #[])) (fun b0 => tree_expression b0) (fun b0 br hb => fnc_fn (tree_expression_ok hb)))] : List Fv35) r27_2] (by kernel_rfl) ⟨hr27_2, trivial⟩ ?_
  refine W_ret ?_
  exact kr [] _ _ (by kernel_rfl) (Option.some.inj h)
set_option maxRecDepth 100000 in
theorem tree_look_right_j4_ok (a0 : GTreeLook) (r_ : Bool) (Q' : Exit → St → Prop) (kr : ∀ (ns : List (Nat × Nat × Nat)) (s : LS) (x : Bool), retX Try.prog ns [.tmp 2] s = some (aB x) → x = r_ → Q' .ret s.st)  (h : tree_look_right_j4 a0 = some r_) : W Try.prog (subC (bodyC Try.prog 32) [1, 0, 1, 0, 1, 1, 1, 1, 1, 1, 1, 1, 1, 1, 1, 1, 1, 1, 1, 1, 1, 1, 1, 0]) (LS.mk 83 [(1, .ptr 1 0)] [(1, some (.box 37 [aI .u8 a0.x_.Kind, aI .i64 a0.x_.Line, aI .i64 a0.x_.Col, aI .i64 a0.x_.Size, aI .i64 a0.x_.Num, aS a0.x_.Text, .t (.sl 6 (a0.kids_.map c_GApiNode))]))]).st Q' := by
  unfold tree_look_right_j4 at h
  refine W_seq ?_
  obtain ⟨r42_1, hr42_1, h⟩ := bind_ok h
  have hr42_1 := tree_look_row_ok hr42_1
  refine W_x (s' := LS.mk 83 [(2, aB r42_1)] []) mixed [(none, [], .no), (none, [], .call [(1, 0, 1)] (aB r42_1)), (none, [], .no)] ⟨[2], [], [], [], [], [], []⟩ [R_tree_look_row a0 ([] : List Fv35) r42_1] (by kernel_rfl) ⟨hr42_1, trivial⟩ ?_
  refine W_ret ?_
  exact kr [] _ _ (by kernel_rfl) (Option.some.inj h)
noncomputable def tree_look_right (a0 : GTreeLook) : Option Bool :=
  (if a0.x_.Kind = 2 then ((tree_of ([3] : List Int)).bind fun (r3_2 : Fv35) => ((tree_look_all a0 r3_2).bind fun (r3_3 : Bool) => (some r3_3))) else (if a0.x_.Kind = 3 then tree_look_right_j0 a0 else (if a0.x_.Kind = 5 then tree_look_right_j0 a0 else (if a0.x_.Kind = 20 then tree_look_right_j0 a0 else (if a0.x_.Kind = 4 then ((tree_look_function a0).bind fun (r9_1 : Bool) => (some r9_1)) else (if a0.x_.Kind = 6 then ((tree_between 7 13).bind fun (r11_1 : Fv35) => ((tree_look_all a0 r11_1).bind fun (r11_2 : Bool) => (some r11_2))) else (if a0.x_.Kind = 7 then tree_look_right_j1 a0 else (if a0.x_.Kind = 8 then tree_look_right_j1 a0 else (if a0.x_.Kind = 9 then tree_look_right_j1 a0 else (if a0.x_.Kind = 10 then tree_look_right_j1 a0 else (if a0.x_.Kind = 11 then tree_look_right_j1 a0 else (if a0.x_.Kind = 12 then tree_look_right_j1 a0 else (if a0.x_.Kind = 13 then tree_look_right_j1 a0 else (if a0.x_.Kind = 27 then ((tree_look_all a0 (Fv35.mk (.v (.func (.func 47) #[] #[])) (fun b0 => tree_expression b0) (fun b0 br hb => fnc_fn (tree_expression_ok hb)))).bind fun (r21_1 : Bool) => (some r21_1)) else (if a0.x_.Kind = 28 then tree_look_right_j2 a0 else (if a0.x_.Kind = 31 then tree_look_right_j2 a0 else (if a0.x_.Kind = 29 then tree_look_right_j3 a0 else (if a0.x_.Kind = 30 then tree_look_right_j3 a0 else (if a0.x_.Kind = 32 then ((tree_of ([19] : List Int)).bind fun (r29_2 : Fv35) => ((tree_look_row a0 ([r29_2] : List Fv35)).bind fun (r29_4 : Bool) => (if r29_4 = true then (some true) else ((tree_of ([20] : List Int)).bind fun (r29_8 : Fv35) => ((tree_look_row a0 ([r29_8, (Fv35.mk (.v (.func (.func 47) #[] #[])) (fun b0 => tree_expression b0) (fun b0 br hb => fnc_fn (tree_expression_ok hb)))] : List Fv35)).bind fun (r29_10 : Bool) => (some r29_10)))))) else (if a0.x_.Kind = 14 then tree_look_right_j4 a0 else (if a0.x_.Kind = 15 then tree_look_right_j4 a0 else (if a0.x_.Kind = 16 then tree_look_right_j4 a0 else (if a0.x_.Kind = 17 then tree_look_right_j4 a0 else (if a0.x_.Kind = 18 then tree_look_right_j4 a0 else (if a0.x_.Kind = 19 then tree_look_right_j4 a0 else (if a0.x_.Kind = 21 then tree_look_right_j4 a0 else (if a0.x_.Kind = 22 then tree_look_right_j4 a0 else (if a0.x_.Kind = 23 then tree_look_right_j4 a0 else (if a0.x_.Kind = 24 then tree_look_right_j4 a0 else (if a0.x_.Kind = 25 then tree_look_right_j4 a0 else (if a0.x_.Kind = 26 then tree_look_right_j4 a0 else (some false))))))))))))))))))))))))))))))))
set_option maxRecDepth 100000 in
theorem tree_look_right_ok {a0 : GTreeLook} {r_ : Bool} (h : tree_look_right a0 = some r_) : R_tree_look_right a0 r_ := by
  unfold tree_look_right at h
  refine fn_pureX (fn := Try.f32) (by kernel_rfl) (c := subC (bodyC Try.prog 32) []) (by kernel_rfl) (by kernel_rfl) (Nat.le_of_ble_eq_true (by kernel_rfl)) ?_
  generalize hQ' : retQ Try.prog Try.f32 (aB r_) = Q'
  have kr : ∀ (ns : List (Nat × Nat × Nat)) (s : LS) (x : Bool), retX Try.prog ns [.tmp 2] s = some (aB x) → x = r_ → Q' .ret s.st := by subst hQ'; intro ns s x hx hq; subst hq; exact ret_ok (fn := Try.f32) ns hx
  change W Try.prog _ (LS.mk 83 [(0, e_GTreeLook a0)] []).st Q'
  refine W_seq ?_
  refine W_x (s' := LS.mk 83 [(1, .ptr 1 0)] [(1, some (.box 37 [aI .u8 a0.x_.Kind, aI .i64 a0.x_.Line, aI .i64 a0.x_.Col, aI .i64 a0.x_.Size, aI .i64 a0.x_.Num, aS a0.x_.Text, .t (.sl 6 (a0.kids_.map c_GApiNode))]))]) mixed [(none, [], .no), (none, [], .no)] ⟨[1], [], [1], [], [], [], []⟩ [] (by kernel_rfl) trivial ?_
  refine W_seq ?_
  refine W_seq ?_
  refine W_x (s' := LS.mk 83 [(1, .ptr 1 0), (5, aI .u8 a0.x_.Kind)] [(1, some (.box 37 [aI .u8 a0.x_.Kind, aI .i64 a0.x_.Line, aI .i64 a0.x_.Col, aI .i64 a0.x_.Size, aI .i64 a0.x_.Num, aS a0.x_.Text, .t (.sl 6 (a0.kids_.map c_GApiNode))]))]) mixed [(none, [], .no), (none, [], .no), (none, [], .no)] ⟨[1, 5], [], [1], [], [], [], []⟩ [] (by kernel_rfl) trivial ?_
  refine W_block ?_
  refine W_seq ?_
  refine W_x (s' := LS.mk 83 [(1, .ptr 1 0), (5, aI .u8 a0.x_.Kind), (6, aB (decide (a0.x_.Kind = 2)))] [(1, some (.box 37 [aI .u8 a0.x_.Kind, aI .i64 a0.x_.Line, aI .i64 a0.x_.Col, aI .i64 a0.x_.Size, aI .i64 a0.x_.Num, aS a0.x_.Text, .t (.sl 6 (a0.kids_.map c_GApiNode))]))]) mixed [(none, [], .no), (none, [], .no)] ⟨[1, 5, 6], [], [1], [], [], [], []⟩ [] (by kernel_rfl) trivial ?_
  refine W_cond (decide (a0.x_.Kind = 2)) (by kernel_rfl) (fun hb1 => ?_) (fun hb1 => ?_)
  · have hx2 := hb1
    have h := if_t h hx2
    refine W_seq ?_
    obtain ⟨r3_2, hr3_2, h⟩ := bind_ok h
    have hr3_2 := tree_of_ok hr3_2
    obtain ⟨r3_3, hr3_3, h⟩ := bind_ok h
    have hr3_3 := tree_look_all_ok hr3_3
    refine W_x (s' := LS.mk 83 [(2, aB r3_3)] []) mixed [(none, [], .no), (none, [], .quiet (.t (.sl 1 (([3] : List Int).map c_u8)))), (none, [], .call [] (.t (r3_2.t))), (none, [], .call [] (aB r3_3)), (none, [], .no)] ⟨[2], [], [], [], [], [], []⟩ [Quiet Try.prog (opAt (subC (bodyC Try.prog 32) [1, 0, 1, 0, 1, 0, 0]) 1) [aI .u8 3] (.t (.sl 1 (([3] : List Int).map c_u8))), R_tree_of ([3] : List Int) r3_2, R_tree_look_all a0 r3_2 r3_3] (by kernel_rfl) ⟨makes_quiet (build_makes (by rfl) ti44 (by rfl) ti5 (by kernel_rfl) (by kernel_rfl) (by kernel_rfl) (by rfl) (by rfl) (by kernel_rfl)), hr3_2, hr3_3, trivial⟩ ?_
    refine W_ret ?_
    exact kr [] _ _ (by kernel_rfl) (Option.some.inj h)
  · have hx2 := hb1
    have h := if_f h hx2
    refine W_seq ?_
    refine W_seq ?_
    refine W_x (s' := LS.mk 83 [(1, .ptr 1 0), (5, aI .u8 a0.x_.Kind), (12, aB (decide (a0.x_.Kind = 3)))] [(1, some (.box 37 [aI .u8 a0.x_.Kind, aI .i64 a0.x_.Line, aI .i64 a0.x_.Col, aI .i64 a0.x_.Size, aI .i64 a0.x_.Num, aS a0.x_.Text, .t (.sl 6 (a0.kids_.map c_GApiNode))]))]) mixed [(none, [], .no), (none, [], .no)] ⟨[1, 5, 12], [], [1], [], [], [], []⟩ [] (by kernel_rfl) trivial ?_
    refine W_cond (decide (a0.x_.Kind = 3)) (by kernel_rfl) (fun hb3 => ?_) (fun hb3 => ?_)
    · have hx4 := hb3
      have h := if_t h hx4
      refine W_skip ?_
      refine W_cond (decide (a0.x_.Kind = 3)) (by kernel_rfl) (fun _ => ?_) (fun hb => nomatch ((hx4 : (decide (a0.x_.Kind = 3)) = true).symm.trans hb))
      exact W_conv (s' := LS.mk 83 [(1, .ptr 1 0)] [(1, some (.box 37 [aI .u8 a0.x_.Kind, aI .i64 a0.x_.Line, aI .i64 a0.x_.Col, aI .i64 a0.x_.Size, aI .i64 a0.x_.Num, aS a0.x_.Text, .t (.sl 6 (a0.kids_.map c_GApiNode))]))]) ⟨[1], [], [1], [], [], [], []⟩ (by kernel_rfl) (tree_look_right_j0_ok a0 r_ _ kr h)
    · have hx4 := hb3
      have h := if_f h hx4
      refine W_seq ?_
      refine W_x (s' := LS.mk 83 [(1, .ptr 1 0), (5, aI .u8 a0.x_.Kind), (12, aB (decide (a0.x_.Kind = 5)))] [(1, some (.box 37 [aI .u8 a0.x_.Kind, aI .i64 a0.x_.Line, aI .i64 a0.x_.Col, aI .i64 a0.x_.Size, aI .i64 a0.x_.Num, aS a0.x_.Text, .t (.sl 6 (a0.kids_.map c_GApiNode))]))]) mixed [(none, [], .no), (none, [], .no)] ⟨[1, 5, 12], [], [1], [], [], [], []⟩ [] (by kernel_rfl) trivial ?_
      refine W_cond (decide (a0.x_.Kind = 5)) (by kernel_rfl) (fun hb5 => ?_) (fun hb5 => ?_)
      · have hx6 := hb5
        have h := if_t h hx6
        refine W_skip ?_
        refine W_cond (decide (a0.x_.Kind = 5)) (by kernel_rfl) (fun _ => ?_) (fun hb => nomatch ((hx6 : (decide (a0.x_.Kind = 5)) = true).symm.trans hb))
        exact W_conv (s' := LS.mk 83 [(1, .ptr 1 0)] [(1, some (.box 37 [aI .u8 a0.x_.Kind, aI .i64 a0.x_.Line, aI .i64 a0.x_.Col, aI .i64 a0.x_.Size, aI .i64 a0.x_.Num, aS a0.x_.Text, .t (.sl 6 (a0.kids_.map c_GApiNode))]))]) ⟨[1], [], [1], [], [], [], []⟩ (by kernel_rfl) (tree_look_right_j0_ok a0 r_ _ kr h)
      · have hx6 := hb5
        have h := if_f h hx6
        refine W_x (s' := LS.mk 83 [(1, .ptr 1 0), (5, aI .u8 a0.x_.Kind), (12, aB (decide (a0.x_.Kind = 20)))] [(1, some (.box 37 [aI .u8 a0.x_.Kind, aI .i64 a0.x_.Line, aI .i64 a0.x_.Col, aI .i64 a0.x_.Size, aI .i64 a0.x_.Num, aS a0.x_.Text, .t (.sl 6 (a0.kids_.map c_GApiNode))]))]) mixed [(none, [], .no), (none, [], .no)] ⟨[1, 5, 12], [], [1], [], [], [], []⟩ [] (by kernel_rfl) trivial ?_
        refine W_cond (decide (a0.x_.Kind = 20)) (by kernel_rfl) (fun hb7 => ?_) (fun hb7 => ?_)
        · have hx8 := hb7
          have h := if_t h hx8
          exact W_conv (s' := LS.mk 83 [(1, .ptr 1 0)] [(1, some (.box 37 [aI .u8 a0.x_.Kind, aI .i64 a0.x_.Line, aI .i64 a0.x_.Col, aI .i64 a0.x_.Size, aI .i64 a0.x_.Num, aS a0.x_.Text, .t (.sl 6 (a0.kids_.map c_GApiNode))]))]) ⟨[1], [], [1], [], [], [], []⟩ (by kernel_rfl) (tree_look_right_j0_ok a0 r_ _ kr h)
        · have hx8 := hb7
          have h := if_f h hx8
          refine W_seq ?_
          refine W_x (s' := LS.mk 83 [(1, .ptr 1 0), (5, aI .u8 a0.x_.Kind), (19, aB (decide (a0.x_.Kind = 4)))] [(1, some (.box 37 [aI .u8 a0.x_.Kind, aI .i64 a0.x_.Line, aI .i64 a0.x_.Col, aI .i64 a0.x_.Size, aI .i64 a0.x_.Num, aS a0.x_.Text, .t (.sl 6 (a0.kids_.map c_GApiNode))]))]) mixed [(none, [], .no), (none, [], .no)] ⟨[1, 5, 19], [], [1], [], [], [], []⟩ [] (by kernel_rfl) trivial ?_
          refine W_cond (decide (a0.x_.Kind = 4)) (by kernel_rfl) (fun hb9 => ?_) (fun hb9 => ?_)
          · have hx10 := hb9
            have h := if_t h hx10
            refine W_seq ?_
            obtain ⟨r9_1, hr9_1, h⟩ := bind_ok h
            have hr9_1 := tree_look_function_ok hr9_1
            refine W_x (s' := LS.mk 83 [(2, aB r9_1)] []) mixed [(none, [], .no), (none, [], .call [] (aB r9_1)), (none, [], .no)] ⟨[2], [], [], [], [], [], []⟩ [R_tree_look_function a0 r9_1] (by kernel_rfl) ⟨hr9_1, trivial⟩ ?_
            refine W_ret ?_
            exact kr [] _ _ (by kernel_rfl) (Option.some.inj h)
          · have hx10 := hb9
            have h := if_f h hx10
            refine W_seq ?_
            refine W_x (s' := LS.mk 83 [(1, .ptr 1 0), (5, aI .u8 a0.x_.Kind), (23, aB (decide (a0.x_.Kind = 6)))] [(1, some (.box 37 [aI .u8 a0.x_.Kind, aI .i64 a0.x_.Line, aI .i64 a0.x_.Col, aI .i64 a0.x_.Size, aI .i64 a0.x_.Num, aS a0.x_.Text, .t (.sl 6 (a0.kids_.map c_GApiNode))]))]) mixed [(none, [], .no), (none, [], .no)] ⟨[1, 5, 23], [], [1], [], [], [], []⟩ [] (by kernel_rfl) trivial ?_
            refine W_cond (decide (a0.x_.Kind = 6)) (by kernel_rfl) (fun hb11 => ?_) (fun hb11 => ?_)
            · have hx12 := hb11
              have h := if_t h hx12
              refine W_seq ?_
              obtain ⟨r11_1, hr11_1, h⟩ := bind_ok h
              have hr11_1 := tree_between_ok hr11_1
              obtain ⟨r11_2, hr11_2, h⟩ := bind_ok h
              have hr11_2 := tree_look_all_ok hr11_2
              refine W_x (s' := LS.mk 83 [(2, aB r11_2)] []) mixed [(none, [], .no), (none, [], .call [] (.t (r11_1.t))), (none, [], .call [] (aB r11_2)), (none, [], .no)] ⟨[2], [], [], [], [], [], []⟩ [R_tree_between 7 13 r11_1, R_tree_look_all a0 r11_1 r11_2] (by kernel_rfl) ⟨hr11_1, hr11_2, trivial⟩ ?_
              refine W_ret ?_
              exact kr [] _ _ (by kernel_rfl) (Option.some.inj h)
            · have hx12 := hb11
              have h := if_f h hx12
              refine W_seq ?_
              refine W_seq ?_
              refine W_x (s' := LS.mk 83 [(1, .ptr 1 0), (5, aI .u8 a0.x_.Kind), (28, aB (decide (a0.x_.Kind = 7)))] [(1, some (.box 37 [aI .u8 a0.x_.Kind, aI .i64 a0.x_.Line, aI .i64 a0.x_.Col, aI .i64 a0.x_.Size, aI .i64 a0.x_.Num, aS a0.x_.Text, .t (.sl 6 (a0.kids_.map c_GApiNode))]))]) mixed [(none, [], .no), (none, [], .no)] ⟨[1, 5, 28], [], [1], [], [], [], []⟩ [] (by kernel_rfl) trivial ?_
              refine W_cond (decide (a0.x_.Kind = 7)) (by kernel_rfl) (fun hb13 => ?_) (fun hb13 => ?_)
              · have hx14 := hb13
                have h := if_t h hx14
                refine W_skip ?_
                refine W_cond (decide (a0.x_.Kind = 7)) (by kernel_rfl) (fun _ => ?_) (fun hb => nomatch ((hx14 : (decide (a0.x_.Kind = 7)) = true).symm.trans hb))
                exact W_conv (s' := LS.mk 83 [(1, .ptr 1 0)] [(1, some (.box 37 [aI .u8 a0.x_.Kind, aI .i64 a0.x_.Line, aI .i64 a0.x_.Col, aI .i64 a0.x_.Size, aI .i64 a0.x_.Num, aS a0.x_.Text, .t (.sl 6 (a0.kids_.map c_GApiNode))]))]) ⟨[1], [], [1], [], [], [], []⟩ (by kernel_rfl) (tree_look_right_j1_ok a0 r_ _ kr h)
              · have hx14 := hb13
                have h := if_f h hx14
                refine W_seq ?_
                refine W_x (s' := LS.mk 83 [(1, .ptr 1 0), (5, aI .u8 a0.x_.Kind), (28, aB (decide (a0.x_.Kind = 8)))] [(1, some (.box 37 [aI .u8 a0.x_.Kind, aI .i64 a0.x_.Line, aI .i64 a0.x_.Col, aI .i64 a0.x_.Size, aI .i64 a0.x_.Num, aS a0.x_.Text, .t (.sl 6 (a0.kids_.map c_GApiNode))]))]) mixed [(none, [], .no), (none, [], .no)] ⟨[1, 5, 28], [], [1], [], [], [], []⟩ [] (by kernel_rfl) trivial ?_
                refine W_cond (decide (a0.x_.Kind = 8)) (by kernel_rfl) (fun hb15 => ?_) (fun hb15 => ?_)
                · have hx16 := hb15
                  have h := if_t h hx16
                  refine W_skip ?_
                  refine W_cond (decide (a0.x_.Kind = 8)) (by kernel_rfl) (fun _ => ?_) (fun hb => nomatch ((hx16 : (decide (a0.x_.Kind = 8)) = true).symm.trans hb))
                  exact W_conv (s' := LS.mk 83 [(1, .ptr 1 0)] [(1, some (.box 37 [aI .u8 a0.x_.Kind, aI .i64 a0.x_.Line, aI .i64 a0.x_.Col, aI .i64 a0.x_.Size, aI .i64 a0.x_.Num, aS a0.x_.Text, .t (.sl 6 (a0.kids_.map c_GApiNode))]))]) ⟨[1], [], [1], [], [], [], []⟩ (by kernel_rfl) (tree_look_right_j1_ok a0 r_ _ kr h)
                · have hx16 := hb15
                  have h := if_f h hx16
                  refine W_seq ?_
                  refine W_x (s' := LS.mk 83 [(1, .ptr 1 0), (5, aI .u8 a0.x_.Kind), (28, aB (decide (a0.x_.Kind = 9)))] [(1, some (.box 37 [aI .u8 a0.x_.Kind, aI .i64 a0.x_.Line, aI .i64 a0.x_.Col, aI .i64 a0.x_.Size, aI .i64 a0.x_.Num, aS a0.x_.Text, .t (.sl 6 (a0.kids_.map c_GApiNode))]))]) mixed [(none, [], .no), (none, [], .no)] ⟨[1, 5, 28], [], [1], [], [], [], []⟩ [] (by kernel_rfl) trivial ?_
                  refine W_cond (decide (a0.x_.Kind = 9)) (by kernel_rfl) (fun hb17 => ?_) (fun hb17 => ?_)
                  · have hx18 := hb17
                    have h := if_t h hx18
                    refine W_skip ?_
                    refine W_cond (decide (a0.x_.Kind = 9)) (by kernel_rfl) (fun _ => ?_) (fun hb => nomatch ((hx18 : (decide (a0.x_.Kind = 9)) = true).symm.trans hb))
                    exact W_conv (s' := LS.mk 83 [(1, .ptr 1 0)] [(1, some (.box 37 [aI .u8 a0.x_.Kind, aI .i64 a0.x_.Line, aI .i64 a0.x_.Col, aI .i64 a0.x_.Size, aI .i64 a0.x_.Num, aS a0.x_.Text, .t (.sl 6 (a0.kids_.map c_GApiNode))]))]) ⟨[1], [], [1], [], [], [], []⟩ (by kernel_rfl) (tree_look_right_j1_ok a0 r_ _ kr h)
                  · have hx18 := hb17
                    have h := if_f h hx18
                    refine W_seq ?_
                    refine W_x (s' := LS.mk 83 [(1, .ptr 1 0), (5, aI .u8 a0.x_.Kind), (28, aB (decide (a0.x_.Kind = 10)))] [(1, some (.box 37 [aI .u8 a0.x_.Kind, aI .i64 a0.x_.Line, aI .i64 a0.x_.Col, aI .i64 a0.x_.Size, aI .i64 a0.x_.Num, aS a0.x_.Text, .t (.sl 6 (a0.kids_.map c_GApiNode))]))]) mixed [(none, [], .no), (none, [], .no)] ⟨[1, 5, 28], [], [1], [], [], [], []⟩ [] (by kernel_rfl) trivial ?_
                    refine W_cond (decide (a0.x_.Kind = 10)) (by kernel_rfl) (fun hb19 => ?_) (fun hb19 => ?_)
                    · have hx20 := hb19
                      have h := if_t h hx20
                      refine W_skip ?_
                      refine W_cond (decide (a0.x_.Kind = 10)) (by kernel_rfl) (fun _ => ?_) (fun hb => nomatch ((hx20 : (decide (a0.x_.Kind = 10)) = true).symm.trans hb))
                      exact W_conv (s' := LS.mk 83 [(1, .ptr 1 0)] [(1, some (.box 37 [aI .u8 a0.x_.Kind, aI .i64 a0.x_.Line, aI .i64 a0.x_.Col, aI .i64 a0.x_.Size, aI .i64 a0.x_.Num, aS a0.x_.Text, .t (.sl 6 (a0.kids_.map c_GApiNode))]))]) ⟨[1], [], [1], [], [], [], []⟩ (by kernel_rfl) (tree_look_right_j1_ok a0 r_ _ kr h)
                    · have hx20 := hb19
                      have h := if_f h hx20
                      refine W_seq ?_
                      refine W_x (s' := LS.mk 83 [(1, .ptr 1 0), (5, aI .u8 a0.x_.Kind), (28, aB (decide (a0.x_.Kind = 11)))] [(1, some (.box 37 [aI .u8 a0.x_.Kind, aI .i64 a0.x_.Line, aI .i64 a0.x_.Col, aI .i64 a0.x_.Size, aI .i64 a0.x_.Num, aS a0.x_.Text, .t (.sl 6 (a0.kids_.map c_GApiNode))]))]) mixed [(none, [], .no), (none, [], .no)] ⟨[1, 5, 28], [], [1], [], [], [], []⟩ [] (by kernel_rfl) trivial ?_
                      refine W_cond (decide (a0.x_.Kind = 11)) (by kernel_rfl) (fun hb21 => ?_) (fun hb21 => ?_)
                      · have hx22 := hb21
                        have h := if_t h hx22
                        refine W_skip ?_
                        refine W_cond (decide (a0.x_.Kind = 11)) (by kernel_rfl) (fun _ => ?_) (fun hb => nomatch ((hx22 : (decide (a0.x_.Kind = 11)) = true).symm.trans hb))
                        exact W_conv (s' := LS.mk 83 [(1, .ptr 1 0)] [(1, some (.box 37 [aI .u8 a0.x_.Kind, aI .i64 a0.x_.Line, aI .i64 a0.x_.Col, aI .i64 a0.x_.Size, aI .i64 a0.x_.Num, aS a0.x_.Text, .t (.sl 6 (a0.kids_.map c_GApiNode))]))]) ⟨[1], [], [1], [], [], [], []⟩ (by kernel_rfl) (tree_look_right_j1_ok a0 r_ _ kr h)
                      · have hx22 := hb21
                        have h := if_f h hx22
                        refine W_seq ?_
                        refine W_x (s' := LS.mk 83 [(1, .ptr 1 0), (5, aI .u8 a0.x_.Kind), (28, aB (decide (a0.x_.Kind = 12)))] [(1, some (.box 37 [aI .u8 a0.x_.Kind, aI .i64 a0.x_.Line, aI .i64 a0.x_.Col, aI .i64 a0.x_.Size, aI .i64 a0.x_.Num, aS a0.x_.Text, .t (.sl 6 (a0.kids_.map c_GApiNode))]))]) mixed [(none, [], .no), (none, [], .no)] ⟨[1, 5, 28], [], [1], [], [], [], []⟩ [] (by kernel_rfl) trivial ?_
                        refine W_cond (decide (a0.x_.Kind = 12)) (by kernel_rfl) (fun hb23 => ?_) (fun hb23 => ?_)
                        · have hx24 := hb23
                          have h := if_t h hx24
                          refine W_skip ?_
                          refine W_cond (decide (a0.x_.Kind = 12)) (by kernel_rfl) (fun _ => ?_) (fun hb => nomatch ((hx24 : (decide (a0.x_.Kind = 12)) = true).symm.trans hb))
                          exact W_conv (s' := LS.mk 83 [(1, .ptr 1 0)] [(1, some (.box 37 [aI .u8 a0.x_.Kind, aI .i64 a0.x_.Line, aI .i64 a0.x_.Col, aI .i64 a0.x_.Size, aI .i64 a0.x_.Num, aS a0.x_.Text, .t (.sl 6 (a0.kids_.map c_GApiNode))]))]) ⟨[1], [], [1], [], [], [], []⟩ (by kernel_rfl) (tree_look_right_j1_ok a0 r_ _ kr h)
                        · have hx24 := hb23
                          have h := if_f h hx24
                          refine W_x (s' := LS.mk 83 [(1, .ptr 1 0), (5, aI .u8 a0.x_.Kind), (28, aB (decide (a0.x_.Kind = 13)))] [(1, some (.box 37 [aI .u8 a0.x_.Kind, aI .i64 a0.x_.Line, aI .i64 a0.x_.Col, aI .i64 a0.x_.Size, aI .i64 a0.x_.Num, aS a0.x_.Text, .t (.sl 6 (a0.kids_.map c_GApiNode))]))]) mixed [(none, [], .no), (none, [], .no)] ⟨[1, 5, 28], [], [1], [], [], [], []⟩ [] (by kernel_rfl) trivial ?_
                          refine W_cond (decide (a0.x_.Kind = 13)) (by kernel_rfl) (fun hb25 => ?_) (fun hb25 => ?_)
                          · have hx26 := hb25
                            have h := if_t h hx26
                            exact W_conv (s' := LS.mk 83 [(1, .ptr 1 0)] [(1, some (.box 37 [aI .u8 a0.x_.Kind, aI .i64 a0.x_.Line, aI .i64 a0.x_.Col, aI .i64 a0.x_.Size, aI .i64 a0.x_.Num, aS a0.x_.Text, .t (.sl 6 (a0.kids_.map c_GApiNode))]))]) ⟨[1], [], [1], [], [], [], []⟩ (by kernel_rfl) (tree_look_right_j1_ok a0 r_ _ kr h)
                          · have hx26 := hb25
                            have h := if_f h hx26
                            refine W_seq ?_
                            refine W_x (s' := LS.mk 83 [(1, .ptr 1 0), (5, aI .u8 a0.x_.Kind), (38, aB (decide (a0.x_.Kind = 27)))] [(1, some (.box 37 [aI .u8 a0.x_.Kind, aI .i64 a0.x_.Line, aI .i64 a0.x_.Col, aI .i64 a0.x_.Size, aI .i64 a0.x_.Num, aS a0.x_.Text, .t (.sl 6 (a0.kids_.map c_GApiNode))]))]) mixed [(none, [], .no), (none, [], .no)] ⟨[1, 5, 38], [], [1], [], [], [], []⟩ [] (by kernel_rfl) trivial ?_
                            refine W_cond (decide (a0.x_.Kind = 27)) (by kernel_rfl) (fun hb27 => ?_) (fun hb27 => ?_)
                            · have hx28 := hb27
                              have h := if_t h hx28
                              refine W_seq ?_
                              obtain ⟨r21_1, hr21_1, h⟩ := bind_ok h
                              have hr21_1 := tree_look_all_ok hr21_1
                              refine W_x (s' := LS.mk 83 [(2, aB r21_1)] []) mixed [(none, [], .no), (none, [], .call [] (aB r21_1)), (none, [], .no)] ⟨[2], [], [], [], [], [], []⟩ [R_tree_look_all a0 (Fv35.mk (.v (.func (.func 47) #[] #[])) (fun b0 => tree_expression b0) (fun b0 br hb => fnc_fn (tree_expression_ok hb))) r21_1] (by kernel_rfl) ⟨hr21_1, trivial⟩ ?_
                              refine W_ret ?_
                              exact kr [] _ _ (by kernel_rfl) (Option.some.inj h)
                            · have hx28 := hb27
                              have h := if_f h hx28
                              refine W_seq ?_
                              refine W_seq ?_
                              refine W_x (s' := LS.mk 83 [(1, .ptr 1 0), (5, aI .u8 a0.x_.Kind), (42, aB (decide (a0.x_.Kind = 28)))] [(1, some (.box 37 [aI .u8 a0.x_.Kind, aI .i64 a0.x_.Line, aI .i64 a0.x_.Col, aI .i64 a0.x_.Size, aI .i64 a0.x_.Num, aS a0.x_.Text, .t (.sl 6 (a0.kids_.map c_GApiNode))]))]) mixed [(none, [], .no), (none, [], .no)] ⟨[1, 5, 42], [], [1], [], [], [], []⟩ [] (by kernel_rfl) trivial ?_
                              refine W_cond (decide (a0.x_.Kind = 28)) (by kernel_rfl) (fun hb29 => ?_) (fun hb29 => ?_)
                              · have hx30 := hb29
                                have h := if_t h hx30
                                refine W_skip ?_
                                refine W_cond (decide (a0.x_.Kind = 28)) (by kernel_rfl) (fun _ => ?_) (fun hb => nomatch ((hx30 : (decide (a0.x_.Kind = 28)) = true).symm.trans hb))
                                exact W_conv (s' := LS.mk 83 [(1, .ptr 1 0)] [(1, some (.box 37 [aI .u8 a0.x_.Kind, aI .i64 a0.x_.Line, aI .i64 a0.x_.Col, aI .i64 a0.x_.Size, aI .i64 a0.x_.Num, aS a0.x_.Text, .t (.sl 6 (a0.kids_.map c_GApiNode))]))]) ⟨[1], [], [1], [], [], [], []⟩ (by kernel_rfl) (tree_look_right_j2_ok a0 r_ _ kr h)
                              · have hx30 := hb29
                                have h := if_f h hx30
                                refine W_x (s' := LS.mk 83 [(1, .ptr 1 0), (5, aI .u8 a0.x_.Kind), (42, aB (decide (a0.x_.Kind = 31)))] [(1, some (.box 37 [aI .u8 a0.x_.Kind, aI .i64 a0.x_.Line, aI .i64 a0.x_.Col, aI .i64 a0.x_.Size, aI .i64 a0.x_.Num, aS a0.x_.Text, .t (.sl 6 (a0.kids_.map c_GApiNode))]))]) mixed [(none, [], .no), (none, [], .no)] ⟨[1, 5, 42], [], [1], [], [], [], []⟩ [] (by kernel_rfl) trivial ?_
                                refine W_cond (decide (a0.x_.Kind = 31)) (by kernel_rfl) (fun hb31 => ?_) (fun hb31 => ?_)
                                · have hx32 := hb31
                                  have h := if_t h hx32
                                  exact W_conv (s' := LS.mk 83 [(1, .ptr 1 0)] [(1, some (.box 37 [aI .u8 a0.x_.Kind, aI .i64 a0.x_.Line, aI .i64 a0.x_.Col, aI .i64 a0.x_.Size, aI .i64 a0.x_.Num, aS a0.x_.Text, .t (.sl 6 (a0.kids_.map c_GApiNode))]))]) ⟨[1], [], [1], [], [], [], []⟩ (by kernel_rfl) (tree_look_right_j2_ok a0 r_ _ kr h)
                                · have hx32 := hb31
                                  have h := if_f h hx32
                                  refine W_seq ?_
                                  refine W_seq ?_
                                  refine W_x (s' := LS.mk 83 [(1, .ptr 1 0), (5, aI .u8 a0.x_.Kind), (48, aB (decide (a0.x_.Kind = 29)))] [(1, some (.box 37 [aI .u8 a0.x_.Kind, aI .i64 a0.x_.Line, aI .i64 a0.x_.Col, aI .i64 a0.x_.Size, aI .i64 a0.x_.Num, aS a0.x_.Text, .t (.sl 6 (a0.kids_.map c_GApiNode))]))]) mixed [(none, [], .no), (none, [], .no)] ⟨[1, 5, 48], [], [1], [], [], [], []⟩ [] (by kernel_rfl) trivial ?_
                                  refine W_cond (decide (a0.x_.Kind = 29)) (by kernel_rfl) (fun hb33 => ?_) (fun hb33 => ?_)
                                  · have hx34 := hb33
                                    have h := if_t h hx34
                                    refine W_skip ?_
                                    refine W_cond (decide (a0.x_.Kind = 29)) (by kernel_rfl) (fun _ => ?_) (fun hb => nomatch ((hx34 : (decide (a0.x_.Kind = 29)) = true).symm.trans hb))
                                    exact W_conv (s' := LS.mk 83 [(1, .ptr 1 0)] [(1, some (.box 37 [aI .u8 a0.x_.Kind, aI .i64 a0.x_.Line, aI .i64 a0.x_.Col, aI .i64 a0.x_.Size, aI .i64 a0.x_.Num, aS a0.x_.Text, .t (.sl 6 (a0.kids_.map c_GApiNode))]))]) ⟨[1], [], [1], [], [], [], []⟩ (by kernel_rfl) (tree_look_right_j3_ok a0 r_ _ kr h)
                                  · have hx34 := hb33
                                    have h := if_f h hx34
                                    refine W_x (s' := LS.mk 83 [(1, .ptr 1 0), (5, aI .u8 a0.x_.Kind), (48, aB (decide (a0.x_.Kind = 30)))] [(1, some (.box 37 [aI .u8 a0.x_.Kind, aI .i64 a0.x_.Line, aI .i64 a0.x_.Col, aI .i64 a0.x_.Size, aI .i64 a0.x_.Num, aS a0.x_.Text, .t (.sl 6 (a0.kids_.map c_GApiNode))]))]) mixed [(none, [], .no), (none, [], .no)] ⟨[1, 5, 48], [], [1], [], [], [], []⟩ [] (by kernel_rfl) trivial ?_
                                    refine W_cond (decide (a0.x_.Kind = 30)) (by kernel_rfl) (fun hb35 => ?_) (fun hb35 => ?_)
                                    · have hx36 := hb35
                                      have h := if_t h hx36
                                      exact W_conv (s' := LS.mk 83 [(1, .ptr 1 0)] [(1, some (.box 37 [aI .u8 a0.x_.Kind, aI .i64 a0.x_.Line, aI .i64 a0.x_.Col, aI .i64 a0.x_.Size, aI .i64 a0.x_.Num, aS a0.x_.Text, .t (.sl 6 (a0.kids_.map c_GApiNode))]))]) ⟨[1], [], [1], [], [], [], []⟩ (by kernel_rfl) (tree_look_right_j3_ok a0 r_ _ kr h)
                                    · have hx36 := hb35
                                      have h := if_f h hx36
                                      refine W_seq ?_
                                      refine W_x (s' := LS.mk 83 [(1, .ptr 1 0), (5, aI .u8 a0.x_.Kind), (54, aB (decide (a0.x_.Kind = 32)))] [(1, some (.box 37 [aI .u8 a0.x_.Kind, aI .i64 a0.x_.Line, aI .i64 a0.x_.Col, aI .i64 a0.x_.Size, aI .i64 a0.x_.Num, aS a0.x_.Text, .t (.sl 6 (a0.kids_.map c_GApiNode))]))]) mixed [(none, [], .no), (none, [], .no)] ⟨[1, 5, 54], [], [1], [], [], [], []⟩ [] (by kernel_rfl) trivial ?_
                                      refine W_cond (decide (a0.x_.Kind = 32)) (by kernel_rfl) (fun hb37 => ?_) (fun hb37 => ?_)
                                      · have hx38 := hb37
                                        have h := if_t h hx38
                                        refine W_seq ?_
                                        obtain ⟨r29_2, hr29_2, h⟩ := bind_ok h
                                        have hr29_2 := tree_of_ok hr29_2
                                        obtain ⟨r29_4, hr29_4, h⟩ := bind_ok h
                                        have hr29_4 := tree_look_row_ok hr29_4
                                        refine (Bool.eq_false_or_eq_true r29_4).elim (fun hb39 => ?_) (fun hb39 => ?_)
                                        · have hx40 := hb39
                                          have h := ib_t h hx40
                                          refine W_x (s' := LS.mk 83 [(2, aB true)] []) mixed [(none, [], .no), (none, [], .quiet (.t (.sl 1 (([19] : List Int).map c_u8)))), (none, [], .call [] (.t (r29_2.t))), (none, [], .no), (none, [], .call [] (aB r29_4)), (none, [], .no), (some true, [], .no), (some true, [], .no), (some true, [], .no), (some true, [], .no), (some true, [], .no), (none, [], .dec true), (none, [], .no)] ⟨[2], [], [], [], [], [], []⟩ [Quiet Try.prog (opAt (subC (bodyC Try.prog 32) [1, 0, 1, 0, 1, 1, 1, 1, 1, 1, 1, 1, 1, 1, 1, 1, 1, 1, 1, 1, 1, 0, 0]) 1) [aI .u8 19] (.t (.sl 1 (([19] : List Int).map c_u8))), R_tree_of ([19] : List Int) r29_2, R_tree_look_row a0 ([r29_2] : List Fv35) r29_4, r29_4 = true, r29_4 = true, r29_4 = true, r29_4 = true, r29_4 = true, r29_4 = true] (by kernel_rfl) ⟨makes_quiet (build_makes (by rfl) ti44 (by rfl) ti5 (by kernel_rfl) (by kernel_rfl) (by kernel_rfl) (by rfl) (by rfl) (by kernel_rfl)), hr29_2, hr29_4, hx40, hx40, hx40, hx40, hx40, hx40, trivial⟩ ?_
                                          refine W_ret ?_
                                          exact kr [] _ _ (by kernel_rfl) (Option.some.inj h)
                                        · have hx40 := hb39
                                          have h := ib_f h hx40
                                          obtain ⟨r29_8, hr29_8, h⟩ := bind_ok h
                                          have hr29_8 := tree_of_ok hr29_8
                                          obtain ⟨r29_10, hr29_10, h⟩ := bind_ok h
                                          have hr29_10 := tree_look_row_ok hr29_10
                                          refine W_x (s' := LS.mk 83 [(2, aB r29_10)] []) mixed [(none, [], .no), (none, [], .quiet (.t (.sl 1 (([19] : List Int).map c_u8)))), (none, [], .call [] (.t (r29_2.t))), (none, [], .no), (none, [], .call [] (aB r29_4)), (none, [], .no), (some false, [], .no), (some false, [], .quiet (.t (.sl 1 (([20] : List Int).map c_u8)))), (some false, [], .call [] (.t (r29_8.t))), (some false, [], .no), (some false, [], .call [] (aB r29_10)), (none, [], .dec false), (none, [], .no)] ⟨[2], [], [], [], [], [], []⟩ [Quiet Try.prog (opAt (subC (bodyC Try.prog 32) [1, 0, 1, 0, 1, 1, 1, 1, 1, 1, 1, 1, 1, 1, 1, 1, 1, 1, 1, 1, 1, 0, 0]) 1) [aI .u8 19] (.t (.sl 1 (([19] : List Int).map c_u8))), R_tree_of ([19] : List Int) r29_2, R_tree_look_row a0 ([r29_2] : List Fv35) r29_4, r29_4 = false, r29_4 = false, Quiet Try.prog (opAt (subC (bodyC Try.prog 32) [1, 0, 1, 0, 1, 1, 1, 1, 1, 1, 1, 1, 1, 1, 1, 1, 1, 1, 1, 1, 1, 0, 0]) 7) [aI .u8 20] (.t (.sl 1 (([20] : List Int).map c_u8))), r29_4 = false, R_tree_of ([20] : List Int) r29_8, r29_4 = false, r29_4 = false, R_tree_look_row a0 ([r29_8, (Fv35.mk (.v (.func (.func 47) #[] #[])) (fun b0 => tree_expression b0) (fun b0 br hb => fnc_fn (tree_expression_ok hb)))] : List Fv35) r29_10, r29_4 = false] (by kernel_rfl) ⟨makes_quiet (build_makes (by rfl) ti44 (by rfl) ti5 (by kernel_rfl) (by kernel_rfl) (by kernel_rfl) (by rfl) (by rfl) (by kernel_rfl)), hr29_2, hr29_4, hx40, hx40, makes_quiet (build_makes (by rfl) ti44 (by rfl) ti5 (by kernel_rfl) (by kernel_rfl) (by kernel_rfl) (by rfl) (by rfl) (by kernel_rfl)), hx40, hr29_8, hx40, hx40, hr29_10, hx40, trivial⟩ ?_
                                          refine W_ret ?_
                                          exact kr [] _ _ (by kernel_rfl) (Option.some.inj h)
                                      · have hx38 := hb37
                                        have h := if_f h hx38
                                        refine W_seq ?_
                                        refine W_seq ?_
                                        refine W_x (s' := LS.mk 83 [(1, .ptr 1 0), (5, aI .u8 a0.x_.Kind), (68, aB (decide (a0.x_.Kind = 14)))] [(1, some (.box 37 [aI .u8 a0.x_.Kind, aI .i64 a0.x_.Line, aI .i64 a0.x_.Col, aI .i64 a0.x_.Size, aI .i64 a0.x_.Num, aS a0.x_.Text, .t (.sl 6 (a0.kids_.map c_GApiNode))]))]) mixed [(none, [], .no), (none, [], .no)] ⟨[1, 5, 68], [], [1], [], [], [], []⟩ [] (by kernel_rfl) trivial ?_
                                        refine W_cond (decide (a0.x_.Kind = 14)) (by kernel_rfl) (fun hb41 => ?_) (fun hb41 => ?_)
                                        · have hx42 := hb41
                                          have h := if_t h hx42
                                          refine W_skip ?_
                                          refine W_cond (decide (a0.x_.Kind = 14)) (by kernel_rfl) (fun _ => ?_) (fun hb => nomatch ((hx42 : (decide (a0.x_.Kind = 14)) = true).symm.trans hb))
                                          exact W_conv (s' := LS.mk 83 [(1, .ptr 1 0)] [(1, some (.box 37 [aI .u8 a0.x_.Kind, aI .i64 a0.x_.Line, aI .i64 a0.x_.Col, aI .i64 a0.x_.Size, aI .i64 a0.x_.Num, aS a0.x_.Text, .t (.sl 6 (a0.kids_.map c_GApiNode))]))]) ⟨[1], [], [1], [], [], [], []⟩ (by kernel_rfl) (tree_look_right_j4_ok a0 r_ _ kr h)
                                        · have hx42 := hb41
                                          have h := if_f h hx42
                                          refine W_seq ?_
                                          refine W_x (s' := LS.mk 83 [(1, .ptr 1 0), (5, aI .u8 a0.x_.Kind), (68, aB (decide (a0.x_.Kind = 15)))] [(1, some (.box 37 [aI .u8 a0.x_.Kind, aI .i64 a0.x_.Line, aI .i64 a0.x_.Col, aI .i64 a0.x_.Size, aI .i64 a0.x_.Num, aS a0.x_.Text, .t (.sl 6 (a0.kids_.map c_GApiNode))]))]) mixed [(none, [], .no), (none, [], .no)] ⟨[1, 5, 68], [], [1], [], [], [], []⟩ [] (by kernel_rfl) trivial ?_
                                          refine W_cond (decide (a0.x_.Kind = 15)) (by kernel_rfl) (fun hb43 => ?_) (fun hb43 => ?_)
                                          · have hx44 := hb43
                                            have h := if_t h hx44
                                            refine W_skip ?_
                                            refine W_cond (decide (a0.x_.Kind = 15)) (by kernel_rfl) (fun _ => ?_) (fun hb => nomatch ((hx44 : (decide (a0.x_.Kind = 15)) = true).symm.trans hb))
                                            exact W_conv (s' := LS.mk 83 [(1, .ptr 1 0)] [(1, some (.box 37 [aI .u8 a0.x_.Kind, aI .i64 a0.x_.Line, aI .i64 a0.x_.Col, aI .i64 a0.x_.Size, aI .i64 a0.x_.Num, aS a0.x_.Text, .t (.sl 6 (a0.kids_.map c_GApiNode))]))]) ⟨[1], [], [1], [], [], [], []⟩ (by kernel_rfl) (tree_look_right_j4_ok a0 r_ _ kr h)
                                          · have hx44 := hb43
                                            have h := if_f h hx44
                                            refine W_seq ?_
                                            refine W_x (s' := LS.mk 83 [(1, .ptr 1 0), (5, aI .u8 a0.x_.Kind), (68, aB (decide (a0.x_.Kind = 16)))] [(1, some (.box 37 [aI .u8 a0.x_.Kind, aI .i64 a0.x_.Line, aI .i64 a0.x_.Col, aI .i64 a0.x_.Size, aI .i64 a0.x_.Num, aS a0.x_.Text, .t (.sl 6 (a0.kids_.map c_GApiNode))]))]) mixed [(none, [], .no), (none, [], .no)] ⟨[1, 5, 68], [], [1], [], [], [], []⟩ [] (by kernel_rfl) trivial ?_
                                            refine W_cond (decide (a0.x_.Kind = 16)) (by kernel_rfl) (fun hb45 => ?_) (fun hb45 => ?_)
                                            · have hx46 := hb45
                                              have h := if_t h hx46
                                              refine W_skip ?_
                                              refine W_cond (decide (a0.x_.Kind = 16)) (by kernel_rfl) (fun _ => ?_) (fun hb => nomatch ((hx46 : (decide (a0.x_.Kind = 16)) = true).symm.trans hb))
                                              exact W_conv (s' := LS.mk 83 [(1, .ptr 1 0)] [(1, some (.box 37 [aI .u8 a0.x_.Kind, aI .i64 a0.x_.Line, aI .i64 a0.x_.Col, aI .i64 a0.x_.Size, aI .i64 a0.x_.Num, aS a0.x_.Text, .t (.sl 6 (a0.kids_.map c_GApiNode))]))]) ⟨[1], [], [1], [], [], [], []⟩ (by kernel_rfl) (tree_look_right_j4_ok a0 r_ _ kr h)
                                            · have hx46 := hb45
                                              have h := if_f h hx46
                                              refine W_seq ?_
                                              refine W_x (s' := LS.mk 83 [(1, .ptr 1 0), (5, aI .u8 a0.x_.Kind), (68, aB (decide (a0.x_.Kind = 17)))] [(1, some (.box 37 [aI .u8 a0.x_.Kind, aI .i64 a0.x_.Line, aI .i64 a0.x_.Col, aI .i64 a0.x_.Size, aI .i64 a0.x_.Num, aS a0.x_.Text, .t (.sl 6 (a0.kids_.map c_GApiNode))]))]) mixed [(none, [], .no), (none, [], .no)] ⟨[1, 5, 68], [], [1], [], [], [], []⟩ [] (by kernel_rfl) trivial ?_
                                              refine W_cond (decide (a0.x_.Kind = 17)) (by kernel_rfl) (fun hb47 => ?_) (fun hb47 => ?_)
                                              · have hx48 := hb47
                                                have h := if_t h hx48
                                                refine W_skip ?_
                                                refine W_cond (decide (a0.x_.Kind = 17)) (by kernel_rfl) (fun _ => ?_) (fun hb => nomatch ((hx48 : (decide (a0.x_.Kind = 17)) = true).symm.trans hb))
                                                exact W_conv (s' := LS.mk 83 [(1, .ptr 1 0)] [(1, some (.box 37 [aI .u8 a0.x_.Kind, aI .i64 a0.x_.Line, aI .i64 a0.x_.Col, aI .i64 a0.x_.Size, aI .i64 a0.x_.Num, aS a0.x_.Text, .t (.sl 6 (a0.kids_.map c_GApiNode))]))]) ⟨[1], [], [1], [], [], [], []⟩ (by kernel_rfl) (tree_look_right_j4_ok a0 r_ _ kr h)
                                              · have hx48 := hb47
                                                have h := if_f h hx48
                                                refine W_seq ?_
                                                refine W_x (s' := LS.mk 83 [(1, .ptr 1 0), (5, aI .u8 a0.x_.Kind), (68, aB (decide (a0.x_.Kind = 18)))] [(1, some (.box 37 [aI .u8 a0.x_.Kind, aI .i64 a0.x_.Line, aI .i64 a0.x_.Col, aI .i64 a0.x_.Size, aI .i64 a0.x_.Num, aS a0.x_.Text, .t (.sl 6 (a0.kids_.map c_GApiNode))]))]) mixed [(none, [], .no), (none, [], .no)] ⟨[1, 5, 68], [], [1], [], [], [], []⟩ [] (by kernel_rfl) trivial ?_
                                                refine W_cond (decide (a0.x_.Kind = 18)) (by kernel_rfl) (fun hb49 => ?_) (fun hb49 => ?_)
                                                · have hx50 := hb49
                                                  have h := if_t h hx50
                                                  refine W_skip ?_
                                                  refine W_cond (decide (a0.x_.Kind = 18)) (by kernel_rfl) (fun _ => ?_) (fun hb => nomatch ((hx50 : (decide (a0.x_.Kind = 18)) = true).symm.trans hb))
                                                  exact W_conv (s' := LS.mk 83 [(1, .ptr 1 0)] [(1, some (.box 37 [aI .u8 a0.x_.Kind, aI .i64 a0.x_.Line, aI .i64 a0.x_.Col, aI .i64 a0.x_.Size, aI .i64 a0.x_.Num, aS a0.x_.Text, .t (.sl 6 (a0.kids_.map c_GApiNode))]))]) ⟨[1], [], [1], [], [], [], []⟩ (by kernel_rfl) (tree_look_right_j4_ok a0 r_ _ kr h)
                                                · have hx50 := hb49
                                                  have h := if_f h hx50
                                                  refine W_seq ?_
                                                  refine W_x (s' := LS.mk 83 [(1, .ptr 1 0), (5, aI .u8 a0.x_.Kind), (68, aB (decide (a0.x_.Kind = 19)))] [(1, some (.box 37 [aI .u8 a0.x_.Kind, aI .i64 a0.x_.Line, aI .i64 a0.x_.Col, aI .i64 a0.x_.Size, aI .i64 a0.x_.Num, aS a0.x_.Text, .t (.sl 6 (a0.kids_.map c_GApiNode))]))]) mixed [(none, [], .no), (none, [], .no)] ⟨[1, 5, 68], [], [1], [], [], [], []⟩ [] (by kernel_rfl) trivial ?_
                                                  refine W_cond (decide (a0.x_.Kind = 19)) (by kernel_rfl) (fun hb51 => ?_) (fun hb51 => ?_)
                                                  · have hx52 := hb51
                                                    have h := if_t h hx52
                                                    refine W_skip ?_
                                                    refine W_cond (decide (a0.x_.Kind = 19)) (by kernel_rfl) (fun _ => ?_) (fun hb => nomatch ((hx52 : (decide (a0.x_.Kind = 19)) = true).symm.trans hb))
                                                    exact W_conv (s' := LS.mk 83 [(1, .ptr 1 0)] [(1, some (.box 37 [aI .u8 a0.x_.Kind, aI .i64 a0.x_.Line, aI .i64 a0.x_.Col, aI .i64 a0.x_.Size, aI .i64 a0.x_.Num, aS a0.x_.Text, .t (.sl 6 (a0.kids_.map c_GApiNode))]))]) ⟨[1], [], [1], [], [], [], []⟩ (by kernel_rfl) (tree_look_right_j4_ok a0 r_ _ kr h)
                                                  · have hx52 := hb51
                                                    have h := if_f h hx52
                                                    refine W_seq ?_
                                                    refine W_x (s' := LS.mk 83 [(1, .ptr 1 0), (5, aI .u8 a0.x_.Kind), (68, aB (decide (a0.x_.Kind = 21)))] [(1, some (.box 37 [aI .u8 a0.x_.Kind, aI .i64 a0.x_.Line, aI .i64 a0.x_.Col, aI .i64 a0.x_.Size, aI .i64 a0.x_.Num, aS a0.x_.Text, .t (.sl 6 (a0.kids_.map c_GApiNode))]))]) mixed [(none, [], .no), (none, [], .no)] ⟨[1, 5, 68], [], [1], [], [], [], []⟩ [] (by kernel_rfl) trivial ?_
                                                    refine W_cond (decide (a0.x_.Kind = 21)) (by kernel_rfl) (fun hb53 => ?_) (fun hb53 => ?_)
                                                    · have hx54 := hb53
                                                      have h := if_t h hx54
                                                      refine W_skip ?_
                                                      refine W_cond (decide (a0.x_.Kind = 21)) (by kernel_rfl) (fun _ => ?_) (fun hb => nomatch ((hx54 : (decide (a0.x_.Kind = 21)) = true).symm.trans hb))
                                                      exact W_conv (s' := LS.mk 83 [(1, .ptr 1 0)] [(1, some (.box 37 [aI .u8 a0.x_.Kind, aI .i64 a0.x_.Line, aI .i64 a0.x_.Col, aI .i64 a0.x_.Size, aI .i64 a0.x_.Num, aS a0.x_.Text, .t (.sl 6 (a0.kids_.map c_GApiNode))]))]) ⟨[1], [], [1], [], [], [], []⟩ (by kernel_rfl) (tree_look_right_j4_ok a0 r_ _ kr h)
                                                    · have hx54 := hb53
                                                      have h := if_f h hx54
                                                      refine W_seq ?_
                                                      refine W_x (s' := LS.mk 83 [(1, .ptr 1 0), (5, aI .u8 a0.x_.Kind), (68, aB (decide (a0.x_.Kind = 22)))] [(1, some (.box 37 [aI .u8 a0.x_.Kind, aI .i64 a0.x_.Line, aI .i64 a0.x_.Col, aI .i64 a0.x_.Size, aI .i64 a0.x_.Num, aS a0.x_.Text, .t (.sl 6 (a0.kids_.map c_GApiNode))]))]) mixed [(none, [], .no), (none, [], .no)] ⟨[1, 5, 68], [], [1], [], [], [], []⟩ [] (by kernel_rfl) trivial ?_
                                                      refine W_cond (decide (a0.x_.Kind = 22)) (by kernel_rfl) (fun hb55 => ?_) (fun hb55 => ?_)
                                                      · have hx56 := hb55
                                                        have h := if_t h hx56
                                                        refine W_skip ?_
                                                        refine W_cond (decide (a0.x_.Kind = 22)) (by kernel_rfl) (fun _ => ?_) (fun hb => nomatch ((hx56 : (decide (a0.x_.Kind = 22)) = true).symm.trans hb))
                                                        exact W_conv (s' := LS.mk 83 [(1, .ptr 1 0)] [(1, some (.box 37 [aI .u8 a0.x_.Kind, aI .i64 a0.x_.Line, aI .i64 a0.x_.Col, aI .i64 a0.x_.Size, aI .i64 a0.x_.Num, aS a0.x_.Text, .t (.sl 6 (a0.kids_.map c_GApiNode))]))]) ⟨[1], [], [1], [], [], [], []⟩ (by kernel_rfl) (tree_look_right_j4_ok a0 r_ _ kr h)
                                                      · have hx56 := hb55
                                                        have h := if_f h hx56
                                                        refine W_seq ?_
                                                        refine W_x (s' := LS.mk 83 [(1, .ptr 1 0), (5, aI .u8 a0.x_.Kind), (68, aB (decide (a0.x_.Kind = 23)))] [(1, some (.box 37 [aI .u8 a0.x_.Kind, aI .i64 a0.x_.Line, aI .i64 a0.x_.Col, aI .i64 a0.x_.Size, aI .i64 a0.x_.Num, aS a0.x_.Text, .t (.sl 6 (a0.kids_.map c_GApiNode))]))]) mixed [(none, [], .no), (none, [], .no)] ⟨[1, 5, 68], [], [1], [], [], [], []⟩ [] (by kernel_rfl) trivial ?_
                                                        refine W_cond (decide (a0.x_.Kind = 23)) (by kernel_rfl) (fun hb57 => ?_) (fun hb57 => ?_)
                                                        · have hx58 := hb57
                                                          have h := if_t h hx58
                                                          refine W_skip ?_
                                                          refine W_cond (decide (a0.x_.Kind = 23)) (by kernel_rfl) (fun _ => ?_) (fun hb => nomatch ((hx58 : (decide (a0.x_.Kind = 23)) = true).symm.trans hb))
                                                          exact W_conv (s' := LS.mk 83 [(1, .ptr 1 0)] [(1, some (.box 37 [aI .u8 a0.x_.Kind, aI .i64 a0.x_.Line, aI .i64 a0.x_.Col, aI .i64 a0.x_.Size, aI .i64 a0.x_.Num, aS a0.x_.Text, .t (.sl 6 (a0.kids_.map c_GApiNode))]))]) ⟨[1], [], [1], [], [], [], []⟩ (by kernel_rfl) (tree_look_right_j4_ok a0 r_ _ kr h)
                                                        · have hx58 := hb57
                                                          have h := if_f h hx58
                                                          refine W_seq ?_
                                                          refine W_x (s' := LS.mk 83 [(1, .ptr 1 0), (5, aI .u8 a0.x_.Kind), (68, aB (decide (a0.x_.Kind = 24)))] [(1, some (.box 37 [aI .u8 a0.x_.Kind, aI .i64 a0.x_.Line, aI .i64 a0.x_.Col, aI .i64 a0.x_.Size, aI .i64 a0.x_.Num, aS a0.x_.Text, .t (.sl 6 (a0.kids_.map c_GApiNode))]))]) mixed [(none, [], .no), (none, [], .no)] ⟨[1, 5, 68], [], [1], [], [], [], []⟩ [] (by kernel_rfl) trivial ?_
                                                          refine W_cond (decide (a0.x_.Kind = 24)) (by kernel_rfl) (fun hb59 => ?_) (fun hb59 => ?_)
                                                          · have hx60 := hb59
                                                            have h := if_t h hx60
                                                            refine W_skip ?_
                                                            refine W_cond (decide (a0.x_.Kind = 24)) (by kernel_rfl) (fun _ => ?_) (fun hb => nomatch ((hx60 : (decide (a0.x_.Kind = 24)) = true).symm.trans hb))
                                                            exact W_conv (s' := LS.mk 83 [(1, .ptr 1 0)] [(1, some (.box 37 [aI .u8 a0.x_.Kind, aI .i64 a0.x_.Line, aI .i64 a0.x_.Col, aI .i64 a0.x_.Size, aI .i64 a0.x_.Num, aS a0.x_.Text, .t (.sl 6 (a0.kids_.map c_GApiNode))]))]) ⟨[1], [], [1], [], [], [], []⟩ (by kernel_rfl) (tree_look_right_j4_ok a0 r_ _ kr h)
                                                          · have hx60 := hb59
                                                            have h := if_f h hx60
                                                            refine W_seq ?_
                                                            refine W_x (s' := LS.mk 83 [(1, .ptr 1 0), (5, aI .u8 a0.x_.Kind), (68, aB (decide (a0.x_.Kind = 25)))] [(1, some (.box 37 [aI .u8 a0.x_.Kind, aI .i64 a0.x_.Line, aI .i64 a0.x_.Col, aI .i64 a0.x_.Size, aI .i64 a0.x_.Num, aS a0.x_.Text, .t (.sl 6 (a0.kids_.map c_GApiNode))]))]) mixed [(none, [], .no), (none, [], .no)] ⟨[1, 5, 68], [], [1], [], [], [], []⟩ [] (by kernel_rfl) trivial ?_
                                                            refine W_cond (decide (a0.x_.Kind = 25)) (by kernel_rfl) (fun hb61 => ?_) (fun hb61 => ?_)
                                                            · have hx62 := hb61
                                                              have h := if_t h hx62
                                                              refine W_skip ?_
                                                              refine W_cond (decide (a0.x_.Kind = 25)) (by kernel_rfl) (fun _ => ?_) (fun hb => nomatch ((hx62 : (decide (a0.x_.Kind = 25)) = true).symm.trans hb))
                                                              exact W_conv (s' := LS.mk 83 [(1, .ptr 1 0)] [(1, some (.box 37 [aI .u8 a0.x_.Kind, aI .i64 a0.x_.Line, aI .i64 a0.x_.Col, aI .i64 a0.x_.Size, aI .i64 a0.x_.Num, aS a0.x_.Text, .t (.sl 6 (a0.kids_.map c_GApiNode))]))]) ⟨[1], [], [1], [], [], [], []⟩ (by kernel_rfl) (tree_look_right_j4_ok a0 r_ _ kr h)
                                                            · have hx62 := hb61
                                                              have h := if_f h hx62
                                                              refine W_x (s' := LS.mk 83 [(1, .ptr 1 0), (68, aB (decide (a0.x_.Kind = 26)))] [(1, some (.box 37 [aI .u8 a0.x_.Kind, aI .i64 a0.x_.Line, aI .i64 a0.x_.Col, aI .i64 a0.x_.Size, aI .i64 a0.x_.Num, aS a0.x_.Text, .t (.sl 6 (a0.kids_.map c_GApiNode))]))]) mixed [(none, [], .no), (none, [], .no)] ⟨[1, 68], [], [1], [], [], [], []⟩ [] (by kernel_rfl) trivial ?_
                                                              refine W_cond (decide (a0.x_.Kind = 26)) (by kernel_rfl) (fun hb63 => ?_) (fun hb63 => ?_)
                                                              · have hx64 := hb63
                                                                have h := if_t h hx64
                                                                exact W_conv (s' := LS.mk 83 [(1, .ptr 1 0)] [(1, some (.box 37 [aI .u8 a0.x_.Kind, aI .i64 a0.x_.Line, aI .i64 a0.x_.Col, aI .i64 a0.x_.Size, aI .i64 a0.x_.Num, aS a0.x_.Text, .t (.sl 6 (a0.kids_.map c_GApiNode))]))]) ⟨[1], [], [1], [], [], [], []⟩ (by kernel_rfl) (tree_look_right_j4_ok a0 r_ _ kr h)
                                                              · have hx64 := hb63
                                                                have h := if_f h hx64
                                                                refine W_skip ?_
                                                                refine W_seq ?_
                                                                refine W_x (s' := LS.mk 83 [(2, aB false)] []) mixed [(none, [], .no)] ⟨[2], [], [], [], [], [], []⟩ [] (by kernel_rfl) trivial ?_
                                                                refine W_ret ?_
                                                                exact kr [] _ _ (by kernel_rfl) (Option.some.inj h)
def R_tree_May (a0 : (List GApiNode)) (r : Bool) : Prop := FnP Try.prog 12 [.t (.sl 6 (a0.map c_GApiNode))] (aB r)
inductive tree_May_C where
  | l0 (a0 : (List GApiNode)) (v0_26_0 : Int)
  | l1 (a0 : (List GApiNode)) (v1_3_0 : Int) (v1_26_0 : Int) (r7_2 : (List Int)) (v1_38_0 : Int) (x6_2 : GApiNode) (w1_100406 : (List GApiNode))
  | j2 
  | j3 (a0 : (List GApiNode)) (v3_3_0 : Int) (v3_26_0 : Int) (x6_2 : GApiNode) (w1_100406 : (List GApiNode))
  | j4 (a0 : (List GApiNode)) (v4_26_0 : Int)
  | j5 (a0 : (List GApiNode)) (v3_3_0 : Int) (v3_26_0 : Int) (x6_2 : GApiNode) (w1_100406 : (List GApiNode))
abbrev tree_May_C_T : tree_May_C → Type := fun _ => Bool
noncomputable def tree_May_l0_b (g : (i : tree_May_C) → Option (tree_May_C_T i)) (a0 : (List GApiNode)) (v0_26_0 : Int) : Option Bool :=
  (if v0_26_0 < (a0.length : Int) then ((getI a0 v0_26_0).bind fun (x6_2 : GApiNode) => ((tree_kids a0 v0_26_0).bind fun (r7_2 : (List Int)) => g (.l1 a0 v0_26_0 v0_26_0 r7_2 0 x6_2 ([] : List GApiNode)))) else g (.j2))
noncomputable def tree_May_l1_b (g : (i : tree_May_C) → Option (tree_May_C_T i)) (a0 : (List GApiNode)) (v1_3_0 : Int) (v1_26_0 : Int) (r7_2 : (List Int)) (v1_38_0 : Int) (x6_2 : GApiNode) (w1_100406 : (List GApiNode)) : Option Bool :=
  (if v1_38_0 < (r7_2.length : Int) then ((getI r7_2 v1_38_0).bind fun (x9_0 : Int) => ((getI a0 x9_0).bind fun (x10_4 : GApiNode) => (if AppOb 56 (w1_100406.length + ([x10_4] : List GApiNode).length) then g (.l1 a0 v1_3_0 v1_26_0 r7_2 (IntKind.wrap .i64 (v1_38_0 + 1)) x6_2 (w1_100406 ++ ([x10_4] : List GApiNode))) else none))) else g (.j3 a0 v1_3_0 v1_26_0 x6_2 w1_100406))
noncomputable def tree_May_j2_b (g : (i : tree_May_C) → Option (tree_May_C_T i))  : Option Bool :=
  (some true)
noncomputable def tree_May_j3_b (g : (i : tree_May_C) → Option (tree_May_C_T i)) (a0 : (List GApiNode)) (v3_3_0 : Int) (v3_26_0 : Int) (x6_2 : GApiNode) (w1_100406 : (List GApiNode)) : Option Bool :=
  (if v3_3_0 = 0 then ((tree_of ([2, 4] : List Int)).bind fun (r12_5 : Fv35) => ((tree_look_all (GTreeLook.mk x6_2 w1_100406) r12_5).bind fun (r12_6 : Bool) => (if r12_6 = true then g (.j5 a0 v3_3_0 v3_26_0 x6_2 w1_100406) else (some false)))) else g (.j5 a0 v3_3_0 v3_26_0 x6_2 w1_100406))
noncomputable def tree_May_j4_b (g : (i : tree_May_C) → Option (tree_May_C_T i)) (a0 : (List GApiNode)) (v4_26_0 : Int) : Option Bool :=
  g (.l0 a0 (IntKind.wrap .i64 (v4_26_0 + 1)))
noncomputable def tree_May_j5_b (g : (i : tree_May_C) → Option (tree_May_C_T i)) (a0 : (List GApiNode)) (v3_3_0 : Int) (v3_26_0 : Int) (x6_2 : GApiNode) (w1_100406 : (List GApiNode)) : Option Bool :=
  (if v3_3_0 > 0 then ((getI a0 v3_3_0).bind fun (x14_5 : GApiNode) => ((tree_fields x14_5).bind fun (r14_7 : Bool) => (if r14_7 = true then ((tree_look_right (GTreeLook.mk x6_2 w1_100406)).bind fun (r14_11 : Bool) => (if r14_11 = true then g (.j4 a0 v3_26_0) else (some false))) else (some false)))) else g (.j4 a0 v3_26_0))
noncomputable def tree_May_B (g : (i : tree_May_C) → Option (tree_May_C_T i)) : (i : tree_May_C) → Option (tree_May_C_T i)
  | .l0 a0 v0_26_0 => tree_May_l0_b g a0 v0_26_0
  | .l1 a0 v1_3_0 v1_26_0 r7_2 v1_38_0 x6_2 w1_100406 => tree_May_l1_b g a0 v1_3_0 v1_26_0 r7_2 v1_38_0 x6_2 w1_100406
  | .j2  => tree_May_j2_b g 
  | .j3 a0 v3_3_0 v3_26_0 x6_2 w1_100406 => tree_May_j3_b g a0 v3_3_0 v3_26_0 x6_2 w1_100406
  | .j4 a0 v4_26_0 => tree_May_j4_b g a0 v4_26_0
  | .j5 a0 v3_3_0 v3_26_0 x6_2 w1_100406 => tree_May_j5_b g a0 v3_3_0 v3_26_0 x6_2 w1_100406
theorem tree_May_B_fin (i : tree_May_C) : Fin1 (fun g => tree_May_B g i) := by
  cases i with
  | l0 a0 v0_26_0 => show Fin1 (fun g => tree_May_l0_b g a0 v0_26_0); unfold tree_May_l0_b; repeat (first | refine fin_bind ?_ (fun _ => ?_) | refine fin_ite ?_ ?_ | exact fin_ask _ | exact fin_const _)
  | l1 a0 v1_3_0 v1_26_0 r7_2 v1_38_0 x6_2 w1_100406 => show Fin1 (fun g => tree_May_l1_b g a0 v1_3_0 v1_26_0 r7_2 v1_38_0 x6_2 w1_100406); unfold tree_May_l1_b; repeat (first | refine fin_bind ?_ (fun _ => ?_) | refine fin_ite ?_ ?_ | exact fin_ask _ | exact fin_const _)
  | j2  => show Fin1 (fun g => tree_May_j2_b g ); unfold tree_May_j2_b; repeat (first | refine fin_bind ?_ (fun _ => ?_) | refine fin_ite ?_ ?_ | exact fin_ask _ | exact fin_const _)
  | j3 a0 v3_3_0 v3_26_0 x6_2 w1_100406 => show Fin1 (fun g => tree_May_j3_b g a0 v3_3_0 v3_26_0 x6_2 w1_100406); unfold tree_May_j3_b; repeat (first | refine fin_bind ?_ (fun _ => ?_) | refine fin_ite ?_ ?_ | exact fin_ask _ | exact fin_const _)
  | j4 a0 v4_26_0 => show Fin1 (fun g => tree_May_j4_b g a0 v4_26_0); unfold tree_May_j4_b; repeat (first | refine fin_bind ?_ (fun _ => ?_) | refine fin_ite ?_ ?_ | exact fin_ask _ | exact fin_const _)
  | j5 a0 v3_3_0 v3_26_0 x6_2 w1_100406 => show Fin1 (fun g => tree_May_j5_b g a0 v3_3_0 v3_26_0 x6_2 w1_100406); unfold tree_May_j5_b; repeat (first | refine fin_bind ?_ (fun _ => ?_) | refine fin_ite ?_ ?_ | exact fin_ask _ | exact fin_const _)
noncomputable def tree_May_l0 (a0 : (List GApiNode)) (v0_26_0 : Int) : Option Bool := fixD tree_May_B (.l0 a0 v0_26_0)
noncomputable def tree_May_l1 (a0 : (List GApiNode)) (v1_3_0 : Int) (v1_26_0 : Int) (r7_2 : (List Int)) (v1_38_0 : Int) (x6_2 : GApiNode) (w1_100406 : (List GApiNode)) : Option Bool := fixD tree_May_B (.l1 a0 v1_3_0 v1_26_0 r7_2 v1_38_0 x6_2 w1_100406)
noncomputable def tree_May_j2  : Option Bool := fixD tree_May_B (.j2 )
noncomputable def tree_May_j3 (a0 : (List GApiNode)) (v3_3_0 : Int) (v3_26_0 : Int) (x6_2 : GApiNode) (w1_100406 : (List GApiNode)) : Option Bool := fixD tree_May_B (.j3 a0 v3_3_0 v3_26_0 x6_2 w1_100406)
noncomputable def tree_May_j4 (a0 : (List GApiNode)) (v4_26_0 : Int) : Option Bool := fixD tree_May_B (.j4 a0 v4_26_0)
noncomputable def tree_May_j5 (a0 : (List GApiNode)) (v3_3_0 : Int) (v3_26_0 : Int) (x6_2 : GApiNode) (w1_100406 : (List GApiNode)) : Option Bool := fixD tree_May_B (.j5 a0 v3_3_0 v3_26_0 x6_2 w1_100406)
theorem tree_May_l0_eq (a0 : (List GApiNode)) (v0_26_0 : Int) : tree_May_l0 a0 v0_26_0 =
  (if v0_26_0 < (a0.length : Int) then ((getI a0 v0_26_0).bind fun (x6_2 : GApiNode) => ((tree_kids a0 v0_26_0).bind fun (r7_2 : (List Int)) => tree_May_l1 a0 v0_26_0 v0_26_0 r7_2 0 x6_2 ([] : List GApiNode))) else tree_May_j2) := fix_eq tree_May_B_fin _
theorem tree_May_l1_eq (a0 : (List GApiNode)) (v1_3_0 : Int) (v1_26_0 : Int) (r7_2 : (List Int)) (v1_38_0 : Int) (x6_2 : GApiNode) (w1_100406 : (List GApiNode)) : tree_May_l1 a0 v1_3_0 v1_26_0 r7_2 v1_38_0 x6_2 w1_100406 =
  (if v1_38_0 < (r7_2.length : Int) then ((getI r7_2 v1_38_0).bind fun (x9_0 : Int) => ((getI a0 x9_0).bind fun (x10_4 : GApiNode) => (if AppOb 56 (w1_100406.length + ([x10_4] : List GApiNode).length) then tree_May_l1 a0 v1_3_0 v1_26_0 r7_2 (IntKind.wrap .i64 (v1_38_0 + 1)) x6_2 (w1_100406 ++ ([x10_4] : List GApiNode)) else none))) else tree_May_j3 a0 v1_3_0 v1_26_0 x6_2 w1_100406) := fix_eq tree_May_B_fin _
theorem tree_May_j2_eq  : tree_May_j2  =
  (some true) := fix_eq tree_May_B_fin _
theorem tree_May_j3_eq (a0 : (List GApiNode)) (v3_3_0 : Int) (v3_26_0 : Int) (x6_2 : GApiNode) (w1_100406 : (List GApiNode)) : tree_May_j3 a0 v3_3_0 v3_26_0 x6_2 w1_100406 =
  (if v3_3_0 = 0 then ((tree_of ([2, 4] : List Int)).bind fun (r12_5 : Fv35) => ((tree_look_all (GTreeLook.mk x6_2 w1_100406) r12_5).bind fun (r12_6 : Bool) => (if r12_6 = true then tree_May_j5 a0 v3_3_0 v3_26_0 x6_2 w1_100406 else (some false)))) else tree_May_j5 a0 v3_3_0 v3_26_0 x6_2 w1_100406) := fix_eq tree_May_B_fin _
theorem tree_May_j4_eq (a0 : (List GApiNode)) (v4_26_0 : Int) : tree_May_j4 a0 v4_26_0 =
  tree_May_l0 a0 (IntKind.wrap .i64 (v4_26_0 + 1)) := fix_eq tree_May_B_fin _
theorem tree_May_j5_eq (a0 : (List GApiNode)) (v3_3_0 : Int) (v3_26_0 : Int) (x6_2 : GApiNode) (w1_100406 : (List GApiNode)) : tree_May_j5 a0 v3_3_0 v3_26_0 x6_2 w1_100406 =
  (if v3_3_0 > 0 then ((getI a0 v3_3_0).bind fun (x14_5 : GApiNode) => ((tree_fields x14_5).bind fun (r14_7 : Bool) => (if r14_7 = true then ((tree_look_right (GTreeLook.mk x6_2 w1_100406)).bind fun (r14_11 : Bool) => (if r14_11 = true then tree_May_j4 a0 v3_26_0 else (some false))) else (some false)))) else tree_May_j4 a0 v3_26_0) := fix_eq tree_May_B_fin _
set_option maxRecDepth 100000 in
theorem tree_May_l1_ok (n : Nat)  (a0 : (List GApiNode)) (v1_3_0 : Int) (v1_26_0 : Int) (r7_2 : (List Int)) (v1_38_0 : Int) (x6_2 : GApiNode) (w1_100406 : (List GApiNode)) (r_ : Bool) (Q' : Exit → St → Prop) (kr : ∀ (ns : List (Nat × Nat × Nat)) (s : LS) (x : Bool), retX Try.prog ns [.tmp 2] s = some (aB x) → x = r_ → Q' .ret s.st) (k_x_2 : ∀ (q : Nat), q < n → ∀ (v3_3_0 : Int) (v3_26_0 : Int) (w1_100406 : (List GApiNode)) (s' : LS), recN tree_May_B q (.j3 a0 v3_3_0 v3_26_0 x6_2 w1_100406) = some r_ → Fits s'.st (LS.mk 79 [(0, .t (.sl 6 (a0.map c_GApiNode))), (3, aI .i64 v3_3_0), (4, .ptr 4 0), (25, aI .i64 (a0.length : Int)), (26, aI .i64 v3_26_0)] [(4, some (.box 37 [aI .u8 x6_2.Kind, aI .i64 x6_2.Line, aI .i64 x6_2.Col, aI .i64 x6_2.Size, aI .i64 x6_2.Num, aS x6_2.Text, .ref 100406])), (100406, some (.row 32 6 (w1_100406.map c_GApiNode)))]).st → Q' (.exit 2) s'.st) (h : recN tree_May_B n (.l1 a0 v1_3_0 v1_26_0 r7_2 v1_38_0 x6_2 w1_100406) = some r_) : W Try.prog (subC (bodyC Try.prog 12) [1, 1, 0, 1, 0, 0, 1, 1, 0, 0, 1, 1, 0, 1, 0]) (LS.mk 79 [(0, .t (.sl 6 (a0.map c_GApiNode))), (3, aI .i64 v1_3_0), (4, .ptr 4 0), (25, aI .i64 (a0.length : Int)), (26, aI .i64 v1_26_0), (36, .ref 1036), (37, aI .i64 (r7_2.length : Int)), (38, aI .i64 v1_38_0)] [(4, some (.box 37 [aI .u8 x6_2.Kind, aI .i64 x6_2.Line, aI .i64 x6_2.Col, aI .i64 x6_2.Size, aI .i64 x6_2.Num, aS x6_2.Text, .ref 100406])), (1036, some (.row 3 1 (r7_2.map c_i64))), (100406, some (.row 32 6 (w1_100406.map c_GApiNode)))]).st Q' := by
  refine W_fix (σ := Int × Int × Int × (List GApiNode)) (fun m x_ => m ≤ n ∧ recN tree_May_B m (.l1 a0 x_.1 x_.2.1 r7_2 x_.2.2.1 x6_2 x_.2.2.2) = some r_) (fun x_ => LS.mk 79 [(0, .t (.sl 6 (a0.map c_GApiNode))), (3, aI .i64 x_.1), (4, .ptr 4 0), (25, aI .i64 (a0.length : Int)), (26, aI .i64 x_.2.1), (36, .ref 1036), (37, aI .i64 (r7_2.length : Int)), (38, aI .i64 x_.2.2.1)] [(4, some (.box 37 [aI .u8 x6_2.Kind, aI .i64 x6_2.Line, aI .i64 x6_2.Col, aI .i64 x6_2.Size, aI .i64 x6_2.Num, aS x6_2.Text, .ref 100406])), (1036, some (.row 3 1 (r7_2.map c_i64))), (100406, some (.row 32 6 (x_.2.2.2.map c_GApiNode)))]) (fun x hx => by cases hx.2) (fun _ _ => rfl) ?_ n (v1_3_0, v1_26_0, v1_38_0, w1_100406) ⟨Nat.le_refl _, h⟩
  clear h
  rintro m ⟨v1_3_0, v1_26_0, v1_38_0, w1_100406⟩ ⟨hlt, h⟩
  replace h : tree_May_l1_b (recN tree_May_B m) a0 v1_3_0 v1_26_0 r7_2 v1_38_0 x6_2 w1_100406 = some r_ := h
  unfold tree_May_l1_b at h
  refine W_seq ?_
  refine W_x (s' := LS.mk 79 [(0, .t (.sl 6 (a0.map c_GApiNode))), (3, aI .i64 v1_3_0), (4, .ptr 4 0), (25, aI .i64 (a0.length : Int)), (26, aI .i64 v1_26_0), (36, .ref 1036), (37, aI .i64 (r7_2.length : Int)), (38, aI .i64 v1_38_0), (39, aB (decide (v1_38_0 < (r7_2.length : Int))))] [(4, some (.box 37 [aI .u8 x6_2.Kind, aI .i64 x6_2.Line, aI .i64 x6_2.Col, aI .i64 x6_2.Size, aI .i64 x6_2.Num, aS x6_2.Text, .ref 100406])), (1036, some (.row 3 1 (r7_2.map c_i64))), (100406, some (.row 32 6 (w1_100406.map c_GApiNode)))]) mixed [(none, [], .no)] ⟨[0, 3, 4, 25, 26, 36, 37, 38, 39], [], [4], [], [(1036, 1036), (100406, 100406)], [], []⟩ [] (by kernel_rfl) trivial ?_
  refine W_seq ?_
  refine W_cond (decide (v1_38_0 < (r7_2.length : Int))) (by kernel_rfl) (fun hb2001 => ?_) (fun hb2001 => ?_)
  · have hx2002 := hb2001
    have h := if_t h hx2002
    refine W_skip ?_
    refine W_seq ?_
    refine W_block ?_
    refine W_seq ?_
    obtain ⟨x9_0, hx9_0, h⟩ := bind_ok h
    refine W_x (s' := LS.mk 79 [(0, .t (.sl 6 (a0.map c_GApiNode))), (3, aI .i64 v1_3_0), (4, .ptr 4 0), (6, aI .i64 x9_0), (25, aI .i64 (a0.length : Int)), (26, aI .i64 v1_26_0), (36, .ref 1036), (37, aI .i64 (r7_2.length : Int)), (38, aI .i64 v1_38_0)] [(4, some (.box 37 [aI .u8 x6_2.Kind, aI .i64 x6_2.Line, aI .i64 x6_2.Col, aI .i64 x6_2.Size, aI .i64 x6_2.Num, aS x6_2.Text, .ref 100406])), (1036, some (.row 3 1 (r7_2.map c_i64))), (100406, some (.row 32 6 (w1_100406.map c_GApiNode)))]) mixed [(none, [], .ix (Int.toNat v1_38_0) (c_i64 x9_0)), (none, [], .ix (Int.toNat v1_38_0) (c_i64 x9_0)), (none, [], .no)] ⟨[0, 3, 4, 6, 25, 26, 36, 37, 38], [], [4], [], [(1036, 1036), (100406, 100406)], [], []⟩ [IxOb (r7_2.map c_i64) v1_38_0 (Int.toNat v1_38_0) (c_i64 x9_0), (r7_2.map c_i64)[(Int.toNat v1_38_0)]? = some (c_i64 x9_0)] (by kernel_rfl) ⟨ix_ob hx9_0, el_ob hx9_0, trivial⟩ ?_
    obtain ⟨x10_4, hx10_4, h⟩ := bind_ok h
    obtain ⟨hd2003, h⟩ := ite_ok h
    refine W_x (s' := LS.mk 79 [(0, .t (.sl 6 (a0.map c_GApiNode))), (3, aI .i64 v1_3_0), (4, .ptr 4 0), (25, aI .i64 (a0.length : Int)), (26, aI .i64 v1_26_0), (36, .ref 1036), (37, aI .i64 (r7_2.length : Int)), (38, aI .i64 v1_38_0)] [(4, some (.box 37 [aI .u8 x6_2.Kind, aI .i64 x6_2.Line, aI .i64 x6_2.Col, aI .i64 x6_2.Size, aI .i64 x6_2.Num, aS x6_2.Text, .ref 100406])), (100406, some (.row 32 6 ((w1_100406 ++ ([x10_4] : List GApiNode)).map c_GApiNode))), (1036, some (.row 3 1 (r7_2.map c_i64)))]) mixed [(none, [], .no), (none, [], .no), (none, [], .no), (none, [], .no), (none, [], .ix (Int.toNat x9_0) (c_GApiNode x10_4)), (none, [], .no), (none, [], .no), (none, [], .rows ((w1_100406 ++ ([x10_4] : List GApiNode)).map c_GApiNode)), (none, [], .no), (none, [], .no)] ⟨[0, 3, 4, 25, 26, 36, 37, 38], [], [4], [], [(49, 100406), (1036, 1036)], [], []⟩ [IxOb (a0.map c_GApiNode) x9_0 (Int.toNat x9_0) (c_GApiNode x10_4), AppOb 56 ((w1_100406.map c_GApiNode).length + (([x10_4] : List GApiNode).map c_GApiNode).length), RowOb (w1_100406.map c_GApiNode ++ ([x10_4] : List GApiNode).map c_GApiNode) ((w1_100406 ++ ([x10_4] : List GApiNode)).map c_GApiNode)] (by kernel_rfl) ⟨ix_ob hx10_4, ap_ob hd2003, app_ob, trivial⟩ ?_
    refine W_x (s' := LS.mk 79 [(0, .t (.sl 6 (a0.map c_GApiNode))), (3, aI .i64 v1_3_0), (4, .ptr 4 0), (25, aI .i64 (a0.length : Int)), (26, aI .i64 v1_26_0), (36, .ref 1036), (37, aI .i64 (r7_2.length : Int)), (38, aI .i64 (IntKind.wrap .i64 (v1_38_0 + 1)))] [(4, some (.box 37 [aI .u8 x6_2.Kind, aI .i64 x6_2.Line, aI .i64 x6_2.Col, aI .i64 x6_2.Size, aI .i64 x6_2.Num, aS x6_2.Text, .ref 100406])), (1036, some (.row 3 1 (r7_2.map c_i64))), (100406, some (.row 32 6 ((w1_100406 ++ ([x10_4] : List GApiNode)).map c_GApiNode)))]) mixed [(none, [], .no), (none, [], .no)] ⟨[0, 3, 4, 25, 26, 36, 37, 38], [], [4], [], [(1036, 1036), (100406, 100406)], [], []⟩ [] (by kernel_rfl) trivial ?_
    exact ⟨m, (v1_3_0, v1_26_0, (IntKind.wrap .i64 (v1_38_0 + 1)), (w1_100406 ++ ([x10_4] : List GApiNode))), Nat.le_refl _, ⟨Nat.le_of_lt hlt, h⟩, convX_fits (v := ⟨[0, 3, 4, 25, 26, 36, 37, 38], [], [4], [], [(1036, 1036), (100406, 100406)], [], []⟩) (s' := LS.mk 79 [(0, .t (.sl 6 (a0.map c_GApiNode))), (3, aI .i64 v1_3_0), (4, .ptr 4 0), (25, aI .i64 (a0.length : Int)), (26, aI .i64 v1_26_0), (36, .ref 1036), (37, aI .i64 (r7_2.length : Int)), (38, aI .i64 (IntKind.wrap .i64 (v1_38_0 + 1)))] [(4, some (.box 37 [aI .u8 x6_2.Kind, aI .i64 x6_2.Line, aI .i64 x6_2.Col, aI .i64 x6_2.Size, aI .i64 x6_2.Num, aS x6_2.Text, .ref 100406])), (1036, some (.row 3 1 (r7_2.map c_i64))), (100406, some (.row 32 6 ((w1_100406 ++ ([x10_4] : List GApiNode)).map c_GApiNode)))]) (by kernel_rfl)⟩
  · have hx2002 := hb2001
    have h := if_f h hx2002
    refine W_exit ?_
    exact k_x_2 m hlt v1_3_0 v1_26_0 w1_100406 _ h (convX_fits (v := ⟨[0, 3, 4, 25, 26], [], [4], [], [(100406, 100406)], [], []⟩) (s' := LS.mk 79 [(0, .t (.sl 6 (a0.map c_GApiNode))), (3, aI .i64 v1_3_0), (4, .ptr 4 0), (25, aI .i64 (a0.length : Int)), (26, aI .i64 v1_26_0)] [(4, some (.box 37 [aI .u8 x6_2.Kind, aI .i64 x6_2.Line, aI .i64 x6_2.Col, aI .i64 x6_2.Size, aI .i64 x6_2.Num, aS x6_2.Text, .ref 100406])), (100406, some (.row 32 6 (w1_100406.map c_GApiNode)))]) (by kernel_rfl))
set_option maxRecDepth 100000 in
theorem tree_May_j2_ok (n : Nat)   (r_ : Bool) (Q' : Exit → St → Prop) (kr : ∀ (ns : List (Nat × Nat × Nat)) (s : LS) (x : Bool), retX Try.prog ns [.tmp 2] s = some (aB x) → x = r_ → Q' .ret s.st)  (h : recN tree_May_B n (.j2 ) = some r_) : W Try.prog (subC (bodyC Try.prog 12) [1, 1, 1]) (LS.mk 79 [] []).st Q' := by
  cases n with
  | zero => cases h
  | succ m =>
  have hlt : m < m + 1 := Nat.lt_succ_self m
  replace h : tree_May_j2_b (recN tree_May_B m)  = some r_ := h
  unfold tree_May_j2_b at h
  refine W_seq ?_
  refine W_x (s' := LS.mk 79 [(2, aB true)] []) mixed [(none, [], .no)] ⟨[2], [], [], [], [], [], []⟩ [] (by kernel_rfl) trivial ?_
  refine W_ret ?_
  exact kr [] _ _ (by kernel_rfl) (Option.some.inj h)
set_option maxRecDepth 100000 in
theorem tree_May_j4_ok (n : Nat)  (a0 : (List GApiNode)) (v4_26_0 : Int) (r_ : Bool) (Q' : Exit → St → Prop) (kr : ∀ (ns : List (Nat × Nat × Nat)) (s : LS) (x : Bool), retX Try.prog ns [.tmp 2] s = some (aB x) → x = r_ → Q' .ret s.st) (k_n : ∀ (q : Nat), q < n → ∀ (v0_26_0 : Int) (s' : LS), recN tree_May_B q (.l0 a0 v0_26_0) = some r_ → Fits s'.st (LS.mk 79 [(0, .t (.sl 6 (a0.map c_GApiNode))), (25, aI .i64 (a0.length : Int)), (26, aI .i64 v0_26_0)] []).st → Q' .normal s'.st) (h : recN tree_May_B n (.j4 a0 v4_26_0) = some r_) : W Try.prog (subC (bodyC Try.prog 12) [1, 1, 0, 1, 0, 0, 1, 1, 1]) (LS.mk 79 [(0, .t (.sl 6 (a0.map c_GApiNode))), (25, aI .i64 (a0.length : Int)), (26, aI .i64 v4_26_0)] []).st Q' := by
  cases n with
  | zero => cases h
  | succ m =>
  have hlt : m < m + 1 := Nat.lt_succ_self m
  replace h : tree_May_j4_b (recN tree_May_B m) a0 v4_26_0 = some r_ := h
  unfold tree_May_j4_b at h
  refine W_x (s' := LS.mk 79 [(0, .t (.sl 6 (a0.map c_GApiNode))), (25, aI .i64 (a0.length : Int)), (26, aI .i64 (IntKind.wrap .i64 (v4_26_0 + 1)))] []) mixed [(none, [], .no), (none, [], .no)] ⟨[0, 25, 26], [], [], [], [], [], []⟩ [] (by kernel_rfl) trivial ?_
  exact k_n m hlt (IntKind.wrap .i64 (v4_26_0 + 1)) _ h (convX_fits (v := ⟨[0, 25, 26], [], [], [], [], [], []⟩) (s' := LS.mk 79 [(0, .t (.sl 6 (a0.map c_GApiNode))), (25, aI .i64 (a0.length : Int)), (26, aI .i64 (IntKind.wrap .i64 (v4_26_0 + 1)))] []) (by kernel_rfl))
set_option maxRecDepth 100000 in
theorem tree_May_j5_ok (n : Nat)  (a0 : (List GApiNode)) (v3_3_0 : Int) (v3_26_0 : Int) (x6_2 : GApiNode) (w1_100406 : (List GApiNode)) (r_ : Bool) (Q' : Exit → St → Prop) (kr : ∀ (ns : List (Nat × Nat × Nat)) (s : LS) (x : Bool), retX Try.prog ns [.tmp 2] s = some (aB x) → x = r_ → Q' .ret s.st) (k_n : ∀ (q : Nat), q < n → ∀ (v4_26_0 : Int) (s' : LS), recN tree_May_B q (.j4 a0 v4_26_0) = some r_ → Fits s'.st (LS.mk 79 [(0, .t (.sl 6 (a0.map c_GApiNode))), (25, aI .i64 (a0.length : Int)), (26, aI .i64 v4_26_0)] []).st → Q' .normal s'.st) (h : recN tree_May_B n (.j5 a0 v3_3_0 v3_26_0 x6_2 w1_100406) = some r_) : W Try.prog (subC (bodyC Try.prog 12) [1, 1, 0, 1, 0, 0, 1, 1, 0, 0, 1, 1, 1, 0, 1, 1]) (LS.mk 79 [(0, .t (.sl 6 (a0.map c_GApiNode))), (3, aI .i64 v3_3_0), (4, .ptr 4 0), (25, aI .i64 (a0.length : Int)), (26, aI .i64 v3_26_0)] [(4, some (.box 37 [aI .u8 x6_2.Kind, aI .i64 x6_2.Line, aI .i64 x6_2.Col, aI .i64 x6_2.Size, aI .i64 x6_2.Num, aS x6_2.Text, .ref 100406])), (100406, some (.row 32 6 (w1_100406.map c_GApiNode)))]).st Q' := by
  cases n with
  | zero => cases h
  | succ m =>
  have hlt : m < m + 1 := Nat.lt_succ_self m
  replace h : tree_May_j5_b (recN tree_May_B m) a0 v3_3_0 v3_26_0 x6_2 w1_100406 = some r_ := h
  unfold tree_May_j5_b at h
  refine W_seq ?_
  refine (Bool.eq_false_or_eq_true (decide (v3_3_0 > 0))).elim (fun hb6001 => ?_) (fun hb6001 => ?_)
  · have hx6002 := hb6001
    have h := if_t h hx6002
    obtain ⟨x14_5, hx14_5, h⟩ := bind_ok h
    obtain ⟨r14_7, hr14_7, h⟩ := bind_ok h
    have hr14_7 := tree_fields_ok hr14_7
    refine (Bool.eq_false_or_eq_true (!r14_7)).elim (fun hb6003 => ?_) (fun hb6003 => ?_)
    · have hx6004 : r14_7 = false := (bnot_t hb6003)
      have h := ib_f h hx6004
      refine W_x (s' := LS.mk 79 [(0, .t (.sl 6 (a0.map c_GApiNode))), (25, aI .i64 (a0.length : Int)), (26, aI .i64 v3_26_0), (62, aB true)] []) mixed [(none, [], .no), (none, [], .no), (none, [], .no), (some true, [], .no), (some true, [], .no), (some true, [], .ix (Int.toNat v3_3_0) (c_GApiNode x14_5)), (some true, [], .no), (some true, [], .call [] (aB r14_7)), (some true, [], .no), (some true, [], .no), (some true, [], .no), (some true, [], .no), (some true, [], .no), (some true, [], .dec true), (none, [], .dec true), (none, [], .no)] ⟨[0, 25, 26, 62], [], [], [], [], [], []⟩ [(decide (v3_3_0 > 0)) = true, (decide (v3_3_0 > 0)) = true, (decide (v3_3_0 > 0)) = true, IxOb (a0.map c_GApiNode) v3_3_0 (Int.toNat v3_3_0) (c_GApiNode x14_5), (decide (v3_3_0 > 0)) = true, (decide (v3_3_0 > 0)) = true, R_tree_fields x14_5 r14_7, (decide (v3_3_0 > 0)) = true, (decide (v3_3_0 > 0)) = true, (!r14_7) = true, (!r14_7) = true, (!r14_7) = true, (decide (v3_3_0 > 0)) = true, (!r14_7) = true, (decide (v3_3_0 > 0)) = true] (by kernel_rfl) ⟨hx6002, hx6002, hx6002, ix_ob hx14_5, hx6002, hx6002, hr14_7, hx6002, hx6002, (not_f hx6004), (not_f hx6004), (not_f hx6004), hx6002, (not_f hx6004), hx6002, trivial⟩ ?_
      refine W_cond true (by kernel_rfl) (fun _ => ?_) (fun hb => nomatch ((rfl : true = true).symm.trans hb))
      refine W_seq ?_
      refine W_x (s' := LS.mk 79 [(2, aB false)] []) mixed [(none, [], .no)] ⟨[2], [], [], [], [], [], []⟩ [] (by kernel_rfl) trivial ?_
      refine W_ret ?_
      exact kr [] _ _ (by kernel_rfl) (Option.some.inj h)
    · have hx6004 : r14_7 = true := (bnot_f hb6003)
      have h := ib_t h hx6004
      obtain ⟨r14_11, hr14_11, h⟩ := bind_ok h
      have hr14_11 := tree_look_right_ok hr14_11
      refine W_x (s' := LS.mk 79 [(0, .t (.sl 6 (a0.map c_GApiNode))), (25, aI .i64 (a0.length : Int)), (26, aI .i64 v3_26_0), (62, aB (!r14_11))] []) mixed [(none, [], .no), (none, [], .no), (none, [], .no), (some true, [], .no), (some true, [], .no), (some true, [], .ix (Int.toNat v3_3_0) (c_GApiNode x14_5)), (some true, [], .no), (some true, [], .call [] (aB r14_7)), (some true, [], .no), (some true, [], .no), (some false, [], .no), (some false, [], .call [] (aB r14_11)), (some false, [], .no), (some true, [], .dec false), (none, [], .dec true), (none, [], .no)] ⟨[0, 25, 26, 62], [], [], [], [], [], []⟩ [(decide (v3_3_0 > 0)) = true, (decide (v3_3_0 > 0)) = true, (decide (v3_3_0 > 0)) = true, IxOb (a0.map c_GApiNode) v3_3_0 (Int.toNat v3_3_0) (c_GApiNode x14_5), (decide (v3_3_0 > 0)) = true, (decide (v3_3_0 > 0)) = true, R_tree_fields x14_5 r14_7, (decide (v3_3_0 > 0)) = true, (decide (v3_3_0 > 0)) = true, (!r14_7) = false, (!r14_7) = false, R_tree_look_right (GTreeLook.mk x6_2 w1_100406) r14_11, (!r14_7) = false, (decide (v3_3_0 > 0)) = true, (!r14_7) = false, (decide (v3_3_0 > 0)) = true] (by kernel_rfl) ⟨hx6002, hx6002, hx6002, ix_ob hx14_5, hx6002, hx6002, hr14_7, hx6002, hx6002, (not_t hx6004), (not_t hx6004), hr14_11, (not_t hx6004), hx6002, (not_t hx6004), hx6002, trivial⟩ ?_
      refine W_cond (!r14_11) (by kernel_rfl) (fun hb6005 => ?_) (fun hb6005 => ?_)
      · have hx6006 : r14_11 = false := (bnot_t hb6005)
        have h := ib_f h hx6006
        refine W_seq ?_
        refine W_x (s' := LS.mk 79 [(2, aB false)] []) mixed [(none, [], .no)] ⟨[2], [], [], [], [], [], []⟩ [] (by kernel_rfl) trivial ?_
        refine W_ret ?_
        exact kr [] _ _ (by kernel_rfl) (Option.some.inj h)
      · have hx6006 : r14_11 = true := (bnot_f hb6005)
        have h := ib_t h hx6006
        refine W_skip ?_
        exact k_n m hlt v3_26_0 _ h (convX_fits (v := ⟨[0, 25, 26], [], [], [], [], [], []⟩) (s' := LS.mk 79 [(0, .t (.sl 6 (a0.map c_GApiNode))), (25, aI .i64 (a0.length : Int)), (26, aI .i64 v3_26_0)] []) (by kernel_rfl))
  · have hx6002 := hb6001
    have h := if_f h hx6002
    refine W_x (s' := LS.mk 79 [(0, .t (.sl 6 (a0.map c_GApiNode))), (25, aI .i64 (a0.length : Int)), (26, aI .i64 v3_26_0), (62, aB false)] []) mixed [(none, [], .no), (none, [], .no), (none, [], .no), (some false, [], .no), (some false, [], .no), (some false, [], .no), (some false, [], .no), (some false, [], .no), (some false, [], .no), (some false, [], .no), (none, [], .no), (none, [], .no), (none, [], .no), (some false, [], .no), (none, [], .dec false), (none, [], .no)] ⟨[0, 25, 26, 62], [], [], [], [], [], []⟩ [(decide (v3_3_0 > 0)) = false, (decide (v3_3_0 > 0)) = false, (decide (v3_3_0 > 0)) = false, (decide (v3_3_0 > 0)) = false, (decide (v3_3_0 > 0)) = false, (decide (v3_3_0 > 0)) = false, (decide (v3_3_0 > 0)) = false, (decide (v3_3_0 > 0)) = false, (decide (v3_3_0 > 0)) = false] (by kernel_rfl) ⟨hx6002, hx6002, hx6002, hx6002, hx6002, hx6002, hx6002, hx6002, hx6002, trivial⟩ ?_
    refine W_cond false (by kernel_rfl) (fun hb => nomatch ((rfl : false = false).symm.trans hb)) (fun _ => ?_)
    refine W_skip ?_
    exact k_n m hlt v3_26_0 _ h (convX_fits (v := ⟨[0, 25, 26], [], [], [], [], [], []⟩) (s' := LS.mk 79 [(0, .t (.sl 6 (a0.map c_GApiNode))), (25, aI .i64 (a0.length : Int)), (26, aI .i64 v3_26_0)] []) (by kernel_rfl))
set_option maxRecDepth 100000 in
theorem tree_May_j3_ok (n : Nat)  (a0 : (List GApiNode)) (v3_3_0 : Int) (v3_26_0 : Int) (x6_2 : GApiNode) (w1_100406 : (List GApiNode)) (r_ : Bool) (Q' : Exit → St → Prop) (kr : ∀ (ns : List (Nat × Nat × Nat)) (s : LS) (x : Bool), retX Try.prog ns [.tmp 2] s = some (aB x) → x = r_ → Q' .ret s.st) (k_n : ∀ (q : Nat), q < n → ∀ (v4_26_0 : Int) (s' : LS), recN tree_May_B q (.j4 a0 v4_26_0) = some r_ → Fits s'.st (LS.mk 79 [(0, .t (.sl 6 (a0.map c_GApiNode))), (25, aI .i64 (a0.length : Int)), (26, aI .i64 v4_26_0)] []).st → Q' .normal s'.st) (h : recN tree_May_B n (.j3 a0 v3_3_0 v3_26_0 x6_2 w1_100406) = some r_) : W Try.prog (subC (bodyC Try.prog 12) [1, 1, 0, 1, 0, 0, 1, 1, 0, 0, 1, 1, 1]) (LS.mk 79 [(0, .t (.sl 6 (a0.map c_GApiNode))), (3, aI .i64 v3_3_0), (4, .ptr 4 0), (25, aI .i64 (a0.length : Int)), (26, aI .i64 v3_26_0)] [(4, some (.box 37 [aI .u8 x6_2.Kind, aI .i64 x6_2.Line, aI .i64 x6_2.Col, aI .i64 x6_2.Size, aI .i64 x6_2.Num, aS x6_2.Text, .ref 100406])), (100406, some (.row 32 6 (w1_100406.map c_GApiNode)))]).st Q' := by
  cases n with
  | zero => cases h
  | succ m =>
  have hlt : m < m + 1 := Nat.lt_succ_self m
  replace h : tree_May_j3_b (recN tree_May_B m) a0 v3_3_0 v3_26_0 x6_2 w1_100406 = some r_ := h
  unfold tree_May_j3_b at h
  refine W_block ?_
  refine W_seq ?_
  refine (Bool.eq_false_or_eq_true (decide (v3_3_0 = 0))).elim (fun hb4001 => ?_) (fun hb4001 => ?_)
  · have hx4002 := hb4001
    have h := if_t h hx4002
    obtain ⟨r12_5, hr12_5, h⟩ := bind_ok h
    have hr12_5 := tree_of_ok hr12_5
    obtain ⟨r12_6, hr12_6, h⟩ := bind_ok h
    have hr12_6 := tree_look_all_ok hr12_6
    refine W_x (s' := LS.mk 79 [(0, .t (.sl 6 (a0.map c_GApiNode))), (3, aI .i64 v3_3_0), (4, .ptr 4 0), (25, aI .i64 (a0.length : Int)), (26, aI .i64 v3_26_0), (52, aB (!r12_6))] [(4, some (.box 37 [aI .u8 x6_2.Kind, aI .i64 x6_2.Line, aI .i64 x6_2.Col, aI .i64 x6_2.Size, aI .i64 x6_2.Num, aS x6_2.Text, .ref 100406])), (100406, some (.row 32 6 (w1_100406.map c_GApiNode)))]) mixed [(none, [], .no), (none, [], .no), (none, [], .no), (some true, [], .no), (some true, [], .quiet (.t (.sl 1 (([2, 4] : List Int).map c_u8)))), (some true, [], .call [] (.t (r12_5.t))), (some true, [], .call [] (aB r12_6)), (some true, [], .no), (none, [], .dec true), (none, [], .no)] ⟨[0, 3, 4, 25, 26, 52], [], [4], [], [(100406, 100406)], [], []⟩ [(decide (v3_3_0 = 0)) = true, (decide (v3_3_0 = 0)) = true, Quiet Try.prog (opAt (subC (bodyC Try.prog 12) [1, 1, 0, 1, 0, 0, 1, 1, 0, 0, 1, 1, 1, 0, 0]) 4) [aI .u8 2, aI .u8 4] (.t (.sl 1 (([2, 4] : List Int).map c_u8))), (decide (v3_3_0 = 0)) = true, R_tree_of ([2, 4] : List Int) r12_5, (decide (v3_3_0 = 0)) = true, R_tree_look_all (GTreeLook.mk x6_2 w1_100406) r12_5 r12_6, (decide (v3_3_0 = 0)) = true, (decide (v3_3_0 = 0)) = true] (by kernel_rfl) ⟨hx4002, hx4002, makes_quiet (build_makes (by rfl) ti44 (by rfl) ti5 (by kernel_rfl) (by kernel_rfl) (by kernel_rfl) (by rfl) (by rfl) (by kernel_rfl)), hx4002, hr12_5, hx4002, hr12_6, hx4002, hx4002, trivial⟩ ?_
    refine W_cond (!r12_6) (by kernel_rfl) (fun hb4003 => ?_) (fun hb4003 => ?_)
    · have hx4004 : r12_6 = false := (bnot_t hb4003)
      have h := ib_f h hx4004
      refine W_seq ?_
      refine W_x (s' := LS.mk 79 [(2, aB false)] []) mixed [(none, [], .no)] ⟨[2], [], [], [], [], [], []⟩ [] (by kernel_rfl) trivial ?_
      refine W_ret ?_
      exact kr [] _ _ (by kernel_rfl) (Option.some.inj h)
    · have hx4004 : r12_6 = true := (bnot_f hb4003)
      have h := ib_t h hx4004
      exact W_conv (s' := LS.mk 79 [(0, .t (.sl 6 (a0.map c_GApiNode))), (3, aI .i64 v3_3_0), (4, .ptr 4 0), (25, aI .i64 (a0.length : Int)), (26, aI .i64 v3_26_0)] [(4, some (.box 37 [aI .u8 x6_2.Kind, aI .i64 x6_2.Line, aI .i64 x6_2.Col, aI .i64 x6_2.Size, aI .i64 x6_2.Num, aS x6_2.Text, .ref 100406])), (100406, some (.row 32 6 (w1_100406.map c_GApiNode)))]) ⟨[0, 3, 4, 25, 26], [], [4], [], [(100406, 100406)], [], []⟩ (by kernel_rfl) (tree_May_j5_ok m a0 v3_3_0 v3_26_0 x6_2 w1_100406 r_ _ kr (fun q1 hq1 v4_26_0 s' h hf => k_n q1 (Nat.lt_trans hq1 hlt) v4_26_0 s' h hf) h)
  · have hx4002 := hb4001
    have h := if_f h hx4002
    refine W_x (s' := LS.mk 79 [(0, .t (.sl 6 (a0.map c_GApiNode))), (3, aI .i64 v3_3_0), (4, .ptr 4 0), (25, aI .i64 (a0.length : Int)), (26, aI .i64 v3_26_0), (52, aB false)] [(4, some (.box 37 [aI .u8 x6_2.Kind, aI .i64 x6_2.Line, aI .i64 x6_2.Col, aI .i64 x6_2.Size, aI .i64 x6_2.Num, aS x6_2.Text, .ref 100406])), (100406, some (.row 32 6 (w1_100406.map c_GApiNode)))]) mixed [(none, [], .no), (none, [], .no), (none, [], .no), (some false, [], .no), (some false, [], .no), (some false, [], .no), (some false, [], .no), (some false, [], .no), (none, [], .dec false), (none, [], .no)] ⟨[0, 3, 4, 25, 26, 52], [], [4], [], [(100406, 100406)], [], []⟩ [(decide (v3_3_0 = 0)) = false, (decide (v3_3_0 = 0)) = false, (decide (v3_3_0 = 0)) = false, (decide (v3_3_0 = 0)) = false, (decide (v3_3_0 = 0)) = false, (decide (v3_3_0 = 0)) = false] (by kernel_rfl) ⟨hx4002, hx4002, hx4002, hx4002, hx4002, hx4002, trivial⟩ ?_
    refine W_cond false (by kernel_rfl) (fun hb => nomatch ((rfl : false = false).symm.trans hb)) (fun _ => ?_)
    exact W_conv (s' := LS.mk 79 [(0, .t (.sl 6 (a0.map c_GApiNode))), (3, aI .i64 v3_3_0), (4, .ptr 4 0), (25, aI .i64 (a0.length : Int)), (26, aI .i64 v3_26_0)] [(4, some (.box 37 [aI .u8 x6_2.Kind, aI .i64 x6_2.Line, aI .i64 x6_2.Col, aI .i64 x6_2.Size, aI .i64 x6_2.Num, aS x6_2.Text, .ref 100406])), (100406, some (.row 32 6 (w1_100406.map c_GApiNode)))]) ⟨[0, 3, 4, 25, 26], [], [4], [], [(100406, 100406)], [], []⟩ (by kernel_rfl) (tree_May_j5_ok m a0 v3_3_0 v3_26_0 x6_2 w1_100406 r_ _ kr (fun q1 hq1 v4_26_0 s' h hf => k_n q1 (Nat.lt_trans hq1 hlt) v4_26_0 s' h hf) h)
set_option maxRecDepth 100000 in
theorem tree_May_l0_ok (n : Nat)  (a0 : (List GApiNode)) (v0_26_0 : Int) (r_ : Bool) (Q' : Exit → St → Prop) (kr : ∀ (ns : List (Nat × Nat × Nat)) (s : LS) (x : Bool), retX Try.prog ns [.tmp 2] s = some (aB x) → x = r_ → Q' .ret s.st) (k_x_0 : ∀ (q : Nat), q < n → ∀  (s' : LS), recN tree_May_B q (.j2 ) = some r_ → Fits s'.st (LS.mk 79 [] []).st → Q' (.exit 0) s'.st) (h : recN tree_May_B n (.l0 a0 v0_26_0) = some r_) : W Try.prog (subC (bodyC Try.prog 12) [1, 1, 0, 1, 0]) (LS.mk 79 [(0, .t (.sl 6 (a0.map c_GApiNode))), (25, aI .i64 (a0.length : Int)), (26, aI .i64 v0_26_0)] []).st Q' := by
  refine W_fix (σ := Int) (fun m x_ => m ≤ n ∧ recN tree_May_B m (.l0 a0 x_) = some r_) (fun x_ => LS.mk 79 [(0, .t (.sl 6 (a0.map c_GApiNode))), (25, aI .i64 (a0.length : Int)), (26, aI .i64 x_)] []) (fun x hx => by cases hx.2) (fun _ _ => rfl) ?_ n (v0_26_0) ⟨Nat.le_refl _, h⟩
  clear h
  rintro m v0_26_0 ⟨hlt, h⟩
  replace h : tree_May_l0_b (recN tree_May_B m) a0 v0_26_0 = some r_ := h
  unfold tree_May_l0_b at h
  refine W_seq ?_
  refine W_x (s' := LS.mk 79 [(0, .t (.sl 6 (a0.map c_GApiNode))), (25, aI .i64 (a0.length : Int)), (26, aI .i64 v0_26_0), (27, aB (decide (v0_26_0 < (a0.length : Int))))] []) mixed [(none, [], .no)] ⟨[0, 25, 26, 27], [], [], [], [], [], []⟩ [] (by kernel_rfl) trivial ?_
  refine W_seq ?_
  refine W_cond (decide (v0_26_0 < (a0.length : Int))) (by kernel_rfl) (fun hb1001 => ?_) (fun hb1001 => ?_)
  · have hx1002 := hb1001
    have h := if_t h hx1002
    refine W_skip ?_
    refine W_seq ?_
    refine W_block ?_
    refine W_seq ?_
    refine W_x (s' := LS.mk 79 [(0, .t (.sl 6 (a0.map c_GApiNode))), (3, aI .i64 v0_26_0), (25, aI .i64 (a0.length : Int)), (26, aI .i64 v0_26_0)] []) mixed [(none, [], .no), (none, [], .no)] ⟨[0, 3, 25, 26], [], [], [], [], [], []⟩ [] (by kernel_rfl) trivial ?_
    refine W_seq ?_
    obtain ⟨x6_2, hx6_2, h⟩ := bind_ok h
    refine W_x (s' := LS.mk 79 [(0, .t (.sl 6 (a0.map c_GApiNode))), (3, aI .i64 v0_26_0), (4, .ptr 4 0), (25, aI .i64 (a0.length : Int)), (26, aI .i64 v0_26_0)] [(4, some (.box 37 [aI .u8 x6_2.Kind, aI .i64 x6_2.Line, aI .i64 x6_2.Col, aI .i64 x6_2.Size, aI .i64 x6_2.Num, aS x6_2.Text, aNil]))]) mixed [(none, [], .no), (none, [], .no), (none, [], .ix (Int.toNat v0_26_0) (c_GApiNode x6_2)), (none, [], .no), (none, [], .no), (none, [], .no), (none, [], .no)] ⟨[0, 3, 4, 25, 26], [], [4], [], [], [], []⟩ [IxOb (a0.map c_GApiNode) v0_26_0 (Int.toNat v0_26_0) (c_GApiNode x6_2)] (by kernel_rfl) ⟨ix_ob hx6_2, trivial⟩ ?_
    refine W_seq ?_
    refine W_seq ?_
    obtain ⟨r7_2, hr7_2, h⟩ := bind_ok h
    have hr7_2 := tree_kids_ok hr7_2
    refine W_x (s' := LS.mk 79 [(0, .t (.sl 6 (a0.map c_GApiNode))), (3, aI .i64 v0_26_0), (4, .ptr 4 0), (25, aI .i64 (a0.length : Int)), (26, aI .i64 v0_26_0), (36, .ref 1036), (37, aI .i64 (r7_2.length : Int)), (38, aI .i64 0)] [(4, some (.box 37 [aI .u8 x6_2.Kind, aI .i64 x6_2.Line, aI .i64 x6_2.Col, aI .i64 x6_2.Size, aI .i64 x6_2.Num, aS x6_2.Text, aNil])), (1036, some (.row 3 1 (r7_2.map c_i64)))]) mixed [(none, [], .no), (none, [], .no), (none, [], .io ⟨[], [], [], [], [], [], [(800000, 36)]⟩ (.ref 800000) [(800000, .row 3 1 (r7_2.map c_i64))]), (none, [], .len r7_2.length), (none, [], .no)] ⟨[0, 3, 4, 25, 26, 36, 37, 38], [], [4], [], [(36, 1036)], [], []⟩ [RI_tree_kids a0 v0_26_0 r7_2, (r7_2.map c_i64).length = r7_2.length] (by kernel_rfl) ⟨hr7_2, len_ob, trivial⟩ ?_
    refine W_block ?_
    exact W_conv (s' := LS.mk 79 [(0, .t (.sl 6 (a0.map c_GApiNode))), (3, aI .i64 v0_26_0), (4, .ptr 4 0), (25, aI .i64 (a0.length : Int)), (26, aI .i64 v0_26_0), (36, .ref 1036), (37, aI .i64 (r7_2.length : Int)), (38, aI .i64 0)] [(4, some (.box 37 [aI .u8 x6_2.Kind, aI .i64 x6_2.Line, aI .i64 x6_2.Col, aI .i64 x6_2.Size, aI .i64 x6_2.Num, aS x6_2.Text, .ref 100406])), (1036, some (.row 3 1 (r7_2.map c_i64))), (100406, some (.row 32 6 (([] : List GApiNode).map c_GApiNode)))]) ⟨[0, 3, 4, 25, 26, 36, 37, 38], [], [4], [(4, 6, .row 100406)], [(1036, 1036)], [], [(100406, 32, 6)]⟩ (by kernel_rfl) (tree_May_l1_ok m a0 v0_26_0 v0_26_0 r7_2 0 x6_2 ([] : List GApiNode) r_ _ kr (fun q1 hq1 v3_3_0 v3_26_0 w1_100406 s' h hf => W_pre hf (tree_May_j3_ok q1 a0 v3_3_0 v3_26_0 x6_2 w1_100406 r_ _ kr (fun q2 hq2 v4_26_0 s' h hf => W_pre hf (tree_May_j4_ok q2 a0 v4_26_0 r_ _ kr (fun q3 hq3 v0_26_0 s' h hf => ⟨q3, (v0_26_0), Nat.le_of_lt (Nat.lt_trans hq3 (Nat.lt_trans hq2 hq1)), ⟨Nat.le_of_lt (Nat.lt_trans hq3 (Nat.lt_trans hq2 (Nat.lt_trans hq1 hlt))), h⟩, hf⟩) h)) h)) h)
  · have hx1002 := hb1001
    have h := if_f h hx1002
    refine W_exit ?_
    exact k_x_0 m hlt  _ h (convX_fits (v := ⟨[], [], [], [], [], [], []⟩) (s' := LS.mk 79 [] []) (by kernel_rfl))
noncomputable def tree_May (a0 : (List GApiNode)) : Option Bool :=
  ((tree_Right a0).bind fun (r1_1 : Bool) => (if r1_1 = true then ((getI a0 0).bind fun (x1_5 : GApiNode) => (if x1_5.Kind = 1 then ((tree_fields x1_5).bind fun (r1_14 : Bool) => (if r1_14 = true then tree_May_l0 a0 0 else (some false))) else (some false))) else (some false)))
set_option maxRecDepth 100000 in
theorem tree_May_ok {a0 : (List GApiNode)} {r_ : Bool} (h : tree_May a0 = some r_) : R_tree_May a0 r_ := by
  unfold tree_May at h
  refine fn_pureX (fn := Try.f12) (by kernel_rfl) (c := subC (bodyC Try.prog 12) []) (by kernel_rfl) (by kernel_rfl) (Nat.le_of_ble_eq_true (by kernel_rfl)) ?_
  generalize hQ' : retQ Try.prog Try.f12 (aB r_) = Q'
  have kr : ∀ (ns : List (Nat × Nat × Nat)) (s : LS) (x : Bool), retX Try.prog ns [.tmp 2] s = some (aB x) → x = r_ → Q' .ret s.st := by subst hQ'; intro ns s x hx hq; subst hq; exact ret_ok (fn := Try.f12) ns hx
  change W Try.prog _ (LS.mk 79 [(0, .t (.sl 6 (a0.map c_GApiNode)))] []).st Q'
  refine W_seq ?_
  refine W_x (s' := LS.mk 79 [(0, .t (.sl 6 (a0.map c_GApiNode)))] []) mixed [(none, [], .no)] ⟨[0], [], [], [], [], [], []⟩ [] (by kernel_rfl) trivial ?_
  refine W_seq ?_
  refine W_seq ?_
  obtain ⟨r1_1, hr1_1, h⟩ := bind_ok h
  have hr1_1 := tree_Right_ok hr1_1
  refine (Bool.eq_false_or_eq_true (!r1_1)).elim (fun hb1 => ?_) (fun hb1 => ?_)
  · have hx2 : r1_1 = false := (bnot_t hb1)
    have h := ib_f h hx2
    refine W_x (s' := LS.mk 79 [(0, .t (.sl 6 (a0.map c_GApiNode))), (23, aB true)] []) mixed [(none, [], .no), (none, [], .call [] (aB r1_1)), (none, [], .no), (none, [], .no), (some true, [], .no), (some true, [], .no), (some true, [], .no), (some true, [], .no), (some true, [], .no), (none, [], .dec true), (none, [], .no), (none, [], .no), (none, [], .no), (none, [], .no), (none, [], .no), (none, [], .no), (none, [], .no)] ⟨[0, 23], [], [], [], [], [], []⟩ [R_tree_Right a0 r1_1, (!r1_1) = true, (!r1_1) = true, (!r1_1) = true, (!r1_1) = true, (!r1_1) = true, (!r1_1) = true] (by kernel_rfl) ⟨hr1_1, (not_f hx2), (not_f hx2), (not_f hx2), (not_f hx2), (not_f hx2), (not_f hx2), trivial⟩ ?_
    refine W_cond true (by kernel_rfl) (fun _ => ?_) (fun hb => nomatch ((rfl : true = true).symm.trans hb))
    refine W_seq ?_
    refine W_x (s' := LS.mk 79 [(2, aB false)] []) mixed [(none, [], .no)] ⟨[2], [], [], [], [], [], []⟩ [] (by kernel_rfl) trivial ?_
    refine W_ret ?_
    exact kr [] _ _ (by kernel_rfl) (Option.some.inj h)
  · have hx2 : r1_1 = true := (bnot_f hb1)
    have h := ib_t h hx2
    obtain ⟨x1_5, hx1_5, h⟩ := bind_ok h
    refine (Bool.eq_false_or_eq_true (!(decide (x1_5.Kind = 1)))).elim (fun hb3 => ?_) (fun hb3 => ?_)
    · have hx4 : (decide (x1_5.Kind = 1)) = false := (bnot_t hb3)
      have h := if_f h hx4
      refine W_x (s' := LS.mk 79 [(0, .t (.sl 6 (a0.map c_GApiNode))), (23, aB true)] []) mixed [(none, [], .no), (none, [], .call [] (aB r1_1)), (none, [], .no), (none, [], .no), (some false, [], .no), (some false, [], .ix (Int.toNat 0) (c_GApiNode x1_5)), (some false, [], .no), (some false, [], .no), (some false, [], .no), (none, [], .dec false), (none, [], .no), (some true, [], .no), (some true, [], .no), (some true, [], .no), (some true, [], .no), (some true, [], .no), (none, [], .dec true)] ⟨[0, 23], [], [], [], [], [], []⟩ [R_tree_Right a0 r1_1, (!r1_1) = false, (!r1_1) = false, IxOb (a0.map c_GApiNode) 0 (Int.toNat 0) (c_GApiNode x1_5), (!r1_1) = false, (!r1_1) = false, (!r1_1) = false, (!r1_1) = false, (!(decide (x1_5.Kind = 1))) = true, (!(decide (x1_5.Kind = 1))) = true, (!(decide (x1_5.Kind = 1))) = true, (!(decide (x1_5.Kind = 1))) = true, (!(decide (x1_5.Kind = 1))) = true, (!(decide (x1_5.Kind = 1))) = true] (by kernel_rfl) ⟨hr1_1, (not_t hx2), (not_t hx2), ix_ob hx1_5, (not_t hx2), (not_t hx2), (not_t hx2), (not_t hx2), (not_f hx4), (not_f hx4), (not_f hx4), (not_f hx4), (not_f hx4), (not_f hx4), trivial⟩ ?_
      refine W_cond true (by kernel_rfl) (fun _ => ?_) (fun hb => nomatch ((rfl : true = true).symm.trans hb))
      refine W_seq ?_
      refine W_x (s' := LS.mk 79 [(2, aB false)] []) mixed [(none, [], .no)] ⟨[2], [], [], [], [], [], []⟩ [] (by kernel_rfl) trivial ?_
      refine W_ret ?_
      exact kr [] _ _ (by kernel_rfl) (Option.some.inj h)
    · have hx4 : (decide (x1_5.Kind = 1)) = true := (bnot_f hb3)
      have h := if_t h hx4
      obtain ⟨r1_14, hr1_14, h⟩ := bind_ok h
      have hr1_14 := tree_fields_ok hr1_14
      refine W_x (s' := LS.mk 79 [(0, .t (.sl 6 (a0.map c_GApiNode))), (23, aB (!r1_14))] []) mixed [(none, [], .no), (none, [], .call [] (aB r1_1)), (none, [], .no), (none, [], .no), (some false, [], .no), (some false, [], .ix (Int.toNat 0) (c_GApiNode x1_5)), (some false, [], .no), (some false, [], .no), (some false, [], .no), (none, [], .dec false), (none, [], .no), (some false, [], .no), (some false, [], .ix (Int.toNat 0) (c_GApiNode x1_5)), (some false, [], .no), (some false, [], .call [] (aB r1_14)), (some false, [], .no), (none, [], .dec false)] ⟨[0, 23], [], [], [], [], [], []⟩ [R_tree_Right a0 r1_1, (!r1_1) = false, (!r1_1) = false, IxOb (a0.map c_GApiNode) 0 (Int.toNat 0) (c_GApiNode x1_5), (!r1_1) = false, (!r1_1) = false, (!r1_1) = false, (!r1_1) = false, (!(decide (x1_5.Kind = 1))) = false, (!(decide (x1_5.Kind = 1))) = false, IxOb (a0.map c_GApiNode) 0 (Int.toNat 0) (c_GApiNode x1_5), (!(decide (x1_5.Kind = 1))) = false, (!(decide (x1_5.Kind = 1))) = false, R_tree_fields x1_5 r1_14, (!(decide (x1_5.Kind = 1))) = false, (!(decide (x1_5.Kind = 1))) = false] (by kernel_rfl) ⟨hr1_1, (not_t hx2), (not_t hx2), ix_ob hx1_5, (not_t hx2), (not_t hx2), (not_t hx2), (not_t hx2), (not_t hx4), (not_t hx4), ix_ob hx1_5, (not_t hx4), (not_t hx4), hr1_14, (not_t hx4), (not_t hx4), trivial⟩ ?_
      refine W_cond (!r1_14) (by kernel_rfl) (fun hb5 => ?_) (fun hb5 => ?_)
      · have hx6 : r1_14 = false := (bnot_t hb5)
        have h := ib_f h hx6
        refine W_seq ?_
        refine W_x (s' := LS.mk 79 [(2, aB false)] []) mixed [(none, [], .no)] ⟨[2], [], [], [], [], [], []⟩ [] (by kernel_rfl) trivial ?_
        refine W_ret ?_
        exact kr [] _ _ (by kernel_rfl) (Option.some.inj h)
      · have hx6 : r1_14 = true := (bnot_f hb5)
        have h := ib_t h hx6
        refine W_skip ?_
        refine W_seq ?_
        refine W_seq ?_
        refine W_x (s' := LS.mk 79 [(0, .t (.sl 6 (a0.map c_GApiNode))), (25, aI .i64 (a0.length : Int)), (26, aI .i64 0)] []) mixed [(none, [], .no), (none, [], .len a0.length), (none, [], .no)] ⟨[0, 25, 26], [], [], [], [], [], []⟩ [(a0.map c_GApiNode).length = a0.length] (by kernel_rfl) ⟨len_ob, trivial⟩ ?_
        refine W_block ?_
        obtain ⟨n, h⟩ := fix_rec h
        exact W_conv (s' := LS.mk 79 [(0, .t (.sl 6 (a0.map c_GApiNode))), (25, aI .i64 (a0.length : Int)), (26, aI .i64 0)] []) ⟨[0, 25, 26], [], [], [], [], [], []⟩ (by kernel_rfl) (tree_May_l0_ok n a0 0 r_ _ kr (fun q1 hq1  s' h hf => W_pre hf (tree_May_j2_ok q1 r_ _ kr h)) h)
def RI_tree_Kids (a0 : (List GApiNode)) (a1 : Int) (r : (List Int)) : Prop := FnIO Try.prog 18 [.t (.sl 6 (a0.map c_GApiNode)), aI .i64 a1] [] (.ref 800000) [(800000, .row 3 1 (r.map c_i64))]
def R_tree_Kids (a0 : (List GApiNode)) (a1 : Int) (r : (List Int)) : Prop := FnP Try.prog 18 [.t (.sl 6 (a0.map c_GApiNode)), aI .i64 a1] (.t (.sl 1 (r.map c_i64)))
noncomputable def tree_Kids (a0 : (List GApiNode)) (a1 : Int) : Option (List Int) :=
  (if a1 < 0 then (some ([] : List Int)) else (if a1 ≥ (a0.length : Int) then (some ([] : List Int)) else ((tree_Right a0).bind fun (r1_10 : Bool) => (if r1_10 = true then ((tree_kids a0 a1).bind fun (r3_2 : (List Int)) => (some r3_2)) else (some ([] : List Int))))))
set_option maxRecDepth 100000 in
theorem tree_Kids_ok {a0 : (List GApiNode)} {a1 : Int} {r_ : (List Int)} (h : tree_Kids a0 a1 = some r_) : RI_tree_Kids a0 a1 r_ := by
  unfold tree_Kids at h
  refine fn_ioX (fn := Try.f18) (by kernel_rfl) (c := subC (bodyC Try.prog 18) []) (by kernel_rfl) (by kernel_rfl) (Nat.le_of_ble_eq_true (by kernel_rfl)) (Nat.le_of_ble_eq_true (by kernel_rfl)) ?_
  generalize hQ' : retIO Try.prog Try.f18 (.ref 800000) [(800000, .row 3 1 (r_.map c_i64))] = Q'
  have kr : ∀ (v : CV) (s : LS) (x : (List Int)), retIOX Try.prog v [.tmp 4] s = some ((.ref 800000), [(800000, .row 3 1 (x.map c_i64))]) → x = r_ → Q' .ret s.st := by subst hQ'; intro ns s x hx hq; subst hq; exact retIO_ret (fn := Try.f18) ns hx
  change W Try.prog _ (LS.mk 21 [(0, .t (.sl 6 (a0.map c_GApiNode))), (1, aI .i64 a1)] []).st Q'
  refine W_seq ?_
  refine W_x (s' := LS.mk 21 [(0, .t (.sl 6 (a0.map c_GApiNode))), (1, aI .i64 a1)] []) mixed [(none, [], .no)] ⟨[0, 1], [], [], [], [], [], []⟩ [] (by kernel_rfl) trivial ?_
  refine W_seq ?_
  refine W_seq ?_
  refine (Bool.eq_false_or_eq_true (decide (a1 < 0))).elim (fun hb1 => ?_) (fun hb1 => ?_)
  · have hx2 := hb1
    have h := if_t h hx2
    refine W_x (s' := LS.mk 21 [(0, .t (.sl 6 (a0.map c_GApiNode))), (1, aI .i64 a1), (17, aB true)] []) mixed [(none, [], .no), (none, [], .no), (none, [], .no), (some true, [], .no), (some true, [], .no), (some true, [], .no), (some true, [], .no), (none, [], .dec true), (none, [], .no), (none, [], .no), (none, [], .no), (none, [], .no), (none, [], .no)] ⟨[0, 1, 17], [], [], [], [], [], []⟩ [(decide (a1 < 0)) = true, (decide (a1 < 0)) = true, (decide (a1 < 0)) = true, (decide (a1 < 0)) = true, (decide (a1 < 0)) = true] (by kernel_rfl) ⟨hx2, hx2, hx2, hx2, hx2, trivial⟩ ?_
    refine W_cond true (by kernel_rfl) (fun _ => ?_) (fun hb => nomatch ((rfl : true = true).symm.trans hb))
    refine W_seq ?_
    refine W_x (s' := LS.mk 21 [(4, aNil)] []) mixed [(none, [], .no)] ⟨[4], [], [], [], [], [], []⟩ [] (by kernel_rfl) trivial ?_
    refine W_ret ?_
    exact kr ⟨[], [(0, 0, .row 800000)], [], [], [], [], [(800000, 3, 1)]⟩ _ ([] : List Int) (by kernel_rfl) (Option.some.inj h)
  · have hx2 := hb1
    have h := if_f h hx2
    refine (Bool.eq_false_or_eq_true (decide (a1 ≥ (a0.length : Int)))).elim (fun hb3 => ?_) (fun hb3 => ?_)
    · have hx4 := hb3
      have h := if_t h hx4
      refine W_x (s' := LS.mk 21 [(0, .t (.sl 6 (a0.map c_GApiNode))), (1, aI .i64 a1), (17, aB true)] []) mixed [(none, [], .no), (none, [], .no), (none, [], .no), (some false, [], .no), (some false, [], .no), (some false, [], .len a0.length), (some false, [], .no), (none, [], .dec false), (none, [], .no), (some true, [], .no), (some true, [], .no), (some true, [], .no), (none, [], .dec true)] ⟨[0, 1, 17], [], [], [], [], [], []⟩ [(decide (a1 < 0)) = false, (decide (a1 < 0)) = false, (decide (a1 < 0)) = false, (a0.map c_GApiNode).length = a0.length, (decide (a1 < 0)) = false, (decide (a1 < 0)) = false, (decide (a1 ≥ (a0.length : Int))) = true, (decide (a1 ≥ (a0.length : Int))) = true, (decide (a1 ≥ (a0.length : Int))) = true, (decide (a1 ≥ (a0.length : Int))) = true] (by kernel_rfl) ⟨hx2, hx2, hx2, len_ob, hx2, hx2, hx4, hx4, hx4, hx4, trivial⟩ ?_
      refine W_cond true (by kernel_rfl) (fun _ => ?_) (fun hb => nomatch ((rfl : true = true).symm.trans hb))
      refine W_seq ?_
      refine W_x (s' := LS.mk 21 [(4, aNil)] []) mixed [(none, [], .no)] ⟨[4], [], [], [], [], [], []⟩ [] (by kernel_rfl) trivial ?_
      refine W_ret ?_
      exact kr ⟨[], [(0, 0, .row 800000)], [], [], [], [], [(800000, 3, 1)]⟩ _ ([] : List Int) (by kernel_rfl) (Option.some.inj h)
    · have hx4 := hb3
      have h := if_f h hx4
      obtain ⟨r1_10, hr1_10, h⟩ := bind_ok h
      have hr1_10 := tree_Right_ok hr1_10
      refine W_x (s' := LS.mk 21 [(0, .t (.sl 6 (a0.map c_GApiNode))), (1, aI .i64 a1), (17, aB (!r1_10))] []) mixed [(none, [], .no), (none, [], .no), (none, [], .no), (some false, [], .no), (some false, [], .no), (some false, [], .len a0.length), (some false, [], .no), (none, [], .dec false), (none, [], .no), (some false, [], .no), (some false, [], .call [] (aB r1_10)), (some false, [], .no), (none, [], .dec false)] ⟨[0, 1, 17], [], [], [], [], [], []⟩ [(decide (a1 < 0)) = false, (decide (a1 < 0)) = false, (decide (a1 < 0)) = false, (a0.map c_GApiNode).length = a0.length, (decide (a1 < 0)) = false, (decide (a1 < 0)) = false, (decide (a1 ≥ (a0.length : Int))) = false, (decide (a1 ≥ (a0.length : Int))) = false, R_tree_Right a0 r1_10, (decide (a1 ≥ (a0.length : Int))) = false, (decide (a1 ≥ (a0.length : Int))) = false] (by kernel_rfl) ⟨hx2, hx2, hx2, len_ob, hx2, hx2, hx4, hx4, hr1_10, hx4, hx4, trivial⟩ ?_
      refine W_cond (!r1_10) (by kernel_rfl) (fun hb5 => ?_) (fun hb5 => ?_)
      · have hx6 : r1_10 = false := (bnot_t hb5)
        have h := ib_f h hx6
        refine W_seq ?_
        refine W_x (s' := LS.mk 21 [(4, aNil)] []) mixed [(none, [], .no)] ⟨[4], [], [], [], [], [], []⟩ [] (by kernel_rfl) trivial ?_
        refine W_ret ?_
        exact kr ⟨[], [(0, 0, .row 800000)], [], [], [], [], [(800000, 3, 1)]⟩ _ ([] : List Int) (by kernel_rfl) (Option.some.inj h)
      · have hx6 : r1_10 = true := (bnot_f hb5)
        have h := ib_t h hx6
        refine W_skip ?_
        refine W_seq ?_
        obtain ⟨r3_2, hr3_2, h⟩ := bind_ok h
        have hr3_2 := tree_kids_ok hr3_2
        refine W_x (s' := LS.mk 21 [(4, .ref 1004)] [(1004, some (.row 3 1 (r3_2.map c_i64)))]) mixed [(none, [], .no), (none, [], .no), (none, [], .io ⟨[], [], [], [], [], [], [(800000, 20)]⟩ (.ref 800000) [(800000, .row 3 1 (r3_2.map c_i64))]), (none, [], .no)] ⟨[4], [], [], [], [(20, 1004)], [], []⟩ [RI_tree_kids a0 a1 r3_2] (by kernel_rfl) ⟨hr3_2, trivial⟩ ?_
        refine W_ret ?_
        exact kr ⟨[], [], [], [], [(1004, 800000)], [], []⟩ _ r3_2 (by kernel_rfl) (Option.some.inj h)
theorem tree_Kids_okp {a0 : (List GApiNode)} {a1 : Int} {r_ : (List Int)} (h : tree_Kids a0 a1 = some r_) : R_tree_Kids a0 a1 r_ := fnio_pure (tree_Kids_ok h) (by kernel_rfl) (by kernel_rfl)
def RI_hindcastlaw05_small  (r : (List GApiNode)) : Prop := FnIO Try.prog 26 [] [] (.ref 800000) [(800000, .row 32 6 (r.map c_GApiNode))]
def R_hindcastlaw05_small  (r : (List GApiNode)) : Prop := FnP Try.prog 26 [] (.t (.sl 6 (r.map c_GApiNode)))
noncomputable def hindcastlaw05_small  : Option (List GApiNode) :=
  (some ([(GApiNode.mk 1 0 0 7 0 ([] : List UInt8)), (GApiNode.mk 4 0 0 6 0 ([109, 97, 105, 110] : List UInt8)), (GApiNode.mk 14 0 0 0 0 ([] : List UInt8)), (GApiNode.mk 6 0 0 4 0 ([] : List UInt8)), (GApiNode.mk 9 0 0 3 0 ([] : List UInt8)), (GApiNode.mk 24 0 0 0 1 ([] : List UInt8)), (GApiNode.mk 6 0 0 0 0 ([] : List UInt8)), (GApiNode.mk 6 0 0 0 0 ([] : List UInt8))] : List GApiNode))
set_option maxRecDepth 100000 in
theorem hindcastlaw05_small_ok  {r_ : (List GApiNode)} (h : hindcastlaw05_small  = some r_) : RI_hindcastlaw05_small  r_ := by
  unfold hindcastlaw05_small at h
  refine fn_ioX (fn := Try.f26) (by kernel_rfl) (c := subC (bodyC Try.prog 26) []) (by kernel_rfl) (by kernel_rfl) (Nat.le_of_ble_eq_true (by kernel_rfl)) (Nat.le_of_ble_eq_true (by kernel_rfl)) ?_
  generalize hQ' : retIO Try.prog Try.f26 (.ref 800000) [(800000, .row 32 6 (r_.map c_GApiNode))] = Q'
  have kr : ∀ (v : CV) (s : LS) (x : (List GApiNode)), retIOX Try.prog v [.tmp 0] s = some ((.ref 800000), [(800000, .row 32 6 (x.map c_GApiNode))]) → x = r_ → Q' .ret s.st := by subst hQ'; intro ns s x hx hq; subst hq; exact retIO_ret (fn := Try.f26) ns hx
  change W Try.prog _ (LS.mk 10 [] []).st Q'
  refine W_seq ?_
  refine W_x (s' := LS.mk 10 [] []) mixed [(none, [], .no)] ⟨[], [], [], [], [], [], []⟩ [] (by kernel_rfl) trivial ?_
  refine W_seq ?_
  refine W_x (s' := LS.mk 10 [(0, .ref 1000)] [(1000, some (.row 32 6 (([(GApiNode.mk 1 0 0 7 0 ([] : List UInt8)), (GApiNode.mk 4 0 0 6 0 ([109, 97, 105, 110] : List UInt8)), (GApiNode.mk 14 0 0 0 0 ([] : List UInt8)), (GApiNode.mk 6 0 0 4 0 ([] : List UInt8)), (GApiNode.mk 9 0 0 3 0 ([] : List UInt8)), (GApiNode.mk 24 0 0 0 1 ([] : List UInt8)), (GApiNode.mk 6 0 0 0 0 ([] : List UInt8)), (GApiNode.mk 6 0 0 0 0 ([] : List UInt8))] : List GApiNode).map c_GApiNode)))]) mixed [(none, [], .no), (none, [], .no), (none, [], .no), (none, [], .no), (none, [], .no), (none, [], .no), (none, [], .no), (none, [], .no), (none, [], .no), (none, [], .no)] ⟨[0], [], [], [], [(9, 1000)], [], []⟩ [] (by kernel_rfl) trivial ?_
  refine W_ret ?_
  exact kr ⟨[], [], [], [], [(1000, 800000)], [], []⟩ _ ([(GApiNode.mk 1 0 0 7 0 ([] : List UInt8)), (GApiNode.mk 4 0 0 6 0 ([109, 97, 105, 110] : List UInt8)), (GApiNode.mk 14 0 0 0 0 ([] : List UInt8)), (GApiNode.mk 6 0 0 4 0 ([] : List UInt8)), (GApiNode.mk 9 0 0 3 0 ([] : List UInt8)), (GApiNode.mk 24 0 0 0 1 ([] : List UInt8)), (GApiNode.mk 6 0 0 0 0 ([] : List UInt8)), (GApiNode.mk 6 0 0 0 0 ([] : List UInt8))] : List GApiNode) (by kernel_rfl) (Option.some.inj h)
theorem hindcastlaw05_small_okp  {r_ : (List GApiNode)} (h : hindcastlaw05_small  = some r_) : R_hindcastlaw05_small  r_ := fnio_pure (hindcastlaw05_small_ok h) (by kernel_rfl) (by kernel_rfl)
def R_hindcastlaw05_awake  (r : Bool) : Prop := FnP Try.prog 9 [] (aB r)
noncomputable def hindcastlaw05_awake  : Option Bool :=
  ((hindcastlaw05_small).bind fun (r1_0 : (List GApiNode)) => ((tree_Kids r1_0 4).bind fun (r1_1 : (List Int)) => ((tree_May ([(GApiNode.mk 1 0 0 0 0 ([] : List UInt8))] : List GApiNode)).bind fun (r2_2 : Bool) => (if r2_2 = true then ((hindcastlaw05_small).bind fun (r2_4 : (List GApiNode)) => ((tree_May r2_4).bind fun (r2_5 : Bool) => (if r2_5 = true then (if (r1_1.length : Int) = 3 then ((getI r1_1 0).bind fun (x2_14 : Int) => (if x2_14 = 5 then ((getI r1_1 1).bind fun (x2_20 : Int) => (if x2_20 = 6 then ((getI r1_1 2).bind fun (x2_26 : Int) => (if x2_26 = 7 then ((tree_Name ([97, 95, 49] : List UInt8)).bind fun (r2_31 : Bool) => (if r2_31 = true then ((tree_Name ([102, 110] : List UInt8)).bind fun (r2_34 : Bool) => (some (!r2_34))) else (some false))) else (some false))) else (some false))) else (some false))) else (some false)) else (some false)))) else (some false)))))
set_option maxRecDepth 100000 in
theorem hindcastlaw05_awake_ok  {r_ : Bool} (h : hindcastlaw05_awake  = some r_) : R_hindcastlaw05_awake  r_ := by
  unfold hindcastlaw05_awake at h
  refine fn_pureX (fn := Try.f9) (by kernel_rfl) (c := subC (bodyC Try.prog 9) []) (by kernel_rfl) (by kernel_rfl) (Nat.le_of_ble_eq_true (by kernel_rfl)) ?_
  generalize hQ' : retQ Try.prog Try.f9 (aB r_) = Q'
  have kr : ∀ (ns : List (Nat × Nat × Nat)) (s : LS) (x : Bool), retX Try.prog ns [.tmp 0] s = some (aB x) → x = r_ → Q' .ret s.st := by subst hQ'; intro ns s x hx hq; subst hq; exact ret_ok (fn := Try.f9) ns hx
  change W Try.prog _ (LS.mk 41 [] []).st Q'
  refine W_seq ?_
  refine W_x (s' := LS.mk 41 [] []) mixed [(none, [], .no)] ⟨[], [], [], [], [], [], []⟩ [] (by kernel_rfl) trivial ?_
  refine W_seq ?_
  obtain ⟨r1_0, hr1_0, h⟩ := bind_ok h
  have hr1_0 := hindcastlaw05_small_ok hr1_0
  obtain ⟨r1_1, hr1_1, h⟩ := bind_ok h
  have hr1_1 := tree_Kids_okp hr1_1
  refine W_x (s' := LS.mk 41 [(1, .t (.sl 1 (r1_1.map c_i64)))] []) mixed [(none, [], .io ⟨[], [], [], [], [], [], [(800000, 2)]⟩ (.ref 800000) [(800000, .row 32 6 (r1_0.map c_GApiNode))]), (none, [2], .call [] (.t (.sl 1 (r1_1.map c_i64)))), (none, [], .no)] ⟨[1], [], [], [], [], [], []⟩ [RI_hindcastlaw05_small r1_0, R_tree_Kids r1_0 4 r1_1] (by kernel_rfl) ⟨hr1_0, hr1_1, trivial⟩ ?_
  refine W_seq ?_
  obtain ⟨r2_2, hr2_2, h⟩ := bind_ok h
  have hr2_2 := tree_May_ok hr2_2
  refine (Bool.eq_false_or_eq_true r2_2).elim (fun hb1 => ?_) (fun hb1 => ?_)
  · have hx2 := hb1
    have h := ib_t h hx2
    obtain ⟨r2_4, hr2_4, h⟩ := bind_ok h
    have hr2_4 := hindcastlaw05_small_ok hr2_4
    obtain ⟨r2_5, hr2_5, h⟩ := bind_ok h
    have hr2_5 := tree_May_ok hr2_5
    refine (Bool.eq_false_or_eq_true r2_5).elim (fun hb3 => ?_) (fun hb3 => ?_)
    · have hx4 := hb3
      have h := ib_t h hx4
      refine (Bool.eq_false_or_eq_true (decide ((r1_1.length : Int) = 3))).elim (fun hb5 => ?_) (fun hb5 => ?_)
      · have hx6 := hb5
        have h := if_t h hx6
        obtain ⟨x2_14, hx2_14, h⟩ := bind_ok h
        refine (Bool.eq_false_or_eq_true (decide (x2_14 = 5))).elim (fun hb7 => ?_) (fun hb7 => ?_)
        · have hx8 := hb7
          have h := if_t h hx8
          obtain ⟨x2_20, hx2_20, h⟩ := bind_ok h
          refine (Bool.eq_false_or_eq_true (decide (x2_20 = 6))).elim (fun hb9 => ?_) (fun hb9 => ?_)
          · have hx10 := hb9
            have h := if_t h hx10
            obtain ⟨x2_26, hx2_26, h⟩ := bind_ok h
            refine (Bool.eq_false_or_eq_true (decide (x2_26 = 7))).elim (fun hb11 => ?_) (fun hb11 => ?_)
            · have hx12 := hb11
              have h := if_t h hx12
              obtain ⟨r2_31, hr2_31, h⟩ := bind_ok h
              have hr2_31 := tree_Name_ok hr2_31
              refine (Bool.eq_false_or_eq_true r2_31).elim (fun hb13 => ?_) (fun hb13 => ?_)
              · have hx14 := hb13
                have h := ib_t h hx14
                obtain ⟨r2_34, hr2_34, h⟩ := bind_ok h
                have hr2_34 := tree_Name_ok hr2_34
                refine W_x (s' := LS.mk 41 [(0, aB (!r2_34))] []) mixed [(none, [], .no), (none, [], .no), (none, [], .call [] (aB r2_2)), (none, [], .no), (some true, [], .io ⟨[], [], [], [], [], [], [(800000, 8)]⟩ (.ref 800000) [(800000, .row 32 6 (r2_4.map c_GApiNode))]), (some true, [], .call [] (aB r2_5)), (none, [], .dec true), (none, [], .no), (some true, [], .no), (some true, [], .len r1_1.length), (some true, [], .no), (none, [], .dec true), (none, [], .no), (some true, [], .no), (some true, [], .ix (Int.toNat 0) (c_i64 x2_14)), (some true, [], .no), (some true, [], .no), (none, [], .dec true), (none, [], .no), (some true, [], .no), (some true, [], .ix (Int.toNat 1) (c_i64 x2_20)), (some true, [], .no), (some true, [], .no), (none, [], .dec true), (none, [], .no), (some true, [], .no), (some true, [], .ix (Int.toNat 2) (c_i64 x2_26)), (some true, [], .no), (some true, [], .no), (none, [], .dec true), (none, [], .no), (some true, [], .call [] (aB r2_31)), (none, [], .dec true), (none, [], .no), (some true, [], .call [] (aB r2_34)), (some true, [], .no), (none, [], .dec true), (none, [], .no)] ⟨[0], [], [], [], [], [], []⟩ [R_tree_May ([(GApiNode.mk 1 0 0 0 0 ([] : List UInt8))] : List GApiNode) r2_2, r2_2 = true, RI_hindcastlaw05_small r2_4, r2_2 = true, R_tree_May r2_4 r2_5, r2_2 = true, r2_5 = true, r2_5 = true, (r1_1.map c_i64).length = r1_1.length, r2_5 = true, r2_5 = true, (decide ((r1_1.length : Int) = 3)) = true, (decide ((r1_1.length : Int) = 3)) = true, IxOb (r1_1.map c_i64) 0 (Int.toNat 0) (c_i64 x2_14), (decide ((r1_1.length : Int) = 3)) = true, (decide ((r1_1.length : Int) = 3)) = true, (decide ((r1_1.length : Int) = 3)) = true, (decide (x2_14 = 5)) = true, (decide (x2_14 = 5)) = true, IxOb (r1_1.map c_i64) 1 (Int.toNat 1) (c_i64 x2_20), (decide (x2_14 = 5)) = true, (decide (x2_14 = 5)) = true, (decide (x2_14 = 5)) = true, (decide (x2_20 = 6)) = true, (decide (x2_20 = 6)) = true, IxOb (r1_1.map c_i64) 2 (Int.toNat 2) (c_i64 x2_26), (decide (x2_20 = 6)) = true, (decide (x2_20 = 6)) = true, (decide (x2_20 = 6)) = true, (decide (x2_26 = 7)) = true, R_tree_Name ([97, 95, 49] : List UInt8) r2_31, (decide (x2_26 = 7)) = true, r2_31 = true, R_tree_Name ([102, 110] : List UInt8) r2_34, r2_31 = true, r2_31 = true] (by kernel_rfl) ⟨hr2_2, hx2, hr2_4, hx2, hr2_5, hx2, hx4, hx4, len_ob, hx4, hx4, hx6, hx6, ix_ob hx2_14, hx6, hx6, hx6, hx8, hx8, ix_ob hx2_20, hx8, hx8, hx8, hx10, hx10, ix_ob hx2_26, hx10, hx10, hx10, hx12, hr2_31, hx12, hx14, hr2_34, hx14, hx14, trivial⟩ ?_
                refine W_ret ?_
                exact kr [] _ _ (by kernel_rfl) (Option.some.inj h)
              · have hx14 := hb13
                have h := ib_f h hx14
                refine W_x (s' := LS.mk 41 [(0, aB false)] []) mixed [(none, [], .no), (none, [], .no), (none, [], .call [] (aB r2_2)), (none, [], .no), (some true, [], .io ⟨[], [], [], [], [], [], [(800000, 8)]⟩ (.ref 800000) [(800000, .row 32 6 (r2_4.map c_GApiNode))]), (some true, [], .call [] (aB r2_5)), (none, [], .dec true), (none, [], .no), (some true, [], .no), (some true, [], .len r1_1.length), (some true, [], .no), (none, [], .dec true), (none, [], .no), (some true, [], .no), (some true, [], .ix (Int.toNat 0) (c_i64 x2_14)), (some true, [], .no), (some true, [], .no), (none, [], .dec true), (none, [], .no), (some true, [], .no), (some true, [], .ix (Int.toNat 1) (c_i64 x2_20)), (some true, [], .no), (some true, [], .no), (none, [], .dec true), (none, [], .no), (some true, [], .no), (some true, [], .ix (Int.toNat 2) (c_i64 x2_26)), (some true, [], .no), (some true, [], .no), (none, [], .dec true), (none, [], .no), (some true, [], .call [] (aB r2_31)), (none, [], .dec true), (none, [], .no), (some false, [], .no), (some false, [], .no), (none, [], .dec false), (none, [], .no)] ⟨[0], [], [], [], [], [], []⟩ [R_tree_May ([(GApiNode.mk 1 0 0 0 0 ([] : List UInt8))] : List GApiNode) r2_2, r2_2 = true, RI_hindcastlaw05_small r2_4, r2_2 = true, R_tree_May r2_4 r2_5, r2_2 = true, r2_5 = true, r2_5 = true, (r1_1.map c_i64).length = r1_1.length, r2_5 = true, r2_5 = true, (decide ((r1_1.length : Int) = 3)) = true, (decide ((r1_1.length : Int) = 3)) = true, IxOb (r1_1.map c_i64) 0 (Int.toNat 0) (c_i64 x2_14), (decide ((r1_1.length : Int) = 3)) = true, (decide ((r1_1.length : Int) = 3)) = true, (decide ((r1_1.length : Int) = 3)) = true, (decide (x2_14 = 5)) = true, (decide (x2_14 = 5)) = true, IxOb (r1_1.map c_i64) 1 (Int.toNat 1) (c_i64 x2_20), (decide (x2_14 = 5)) = true, (decide (x2_14 = 5)) = true, (decide (x2_14 = 5)) = true, (decide (x2_20 = 6)) = true, (decide (x2_20 = 6)) = true, IxOb (r1_1.map c_i64) 2 (Int.toNat 2) (c_i64 x2_26), (decide (x2_20 = 6)) = true, (decide (x2_20 = 6)) = true, (decide (x2_20 = 6)) = true, (decide (x2_26 = 7)) = true, R_tree_Name ([97, 95, 49] : List UInt8) r2_31, (decide (x2_26 = 7)) = true, r2_31 = false, r2_31 = false, r2_31 = false] (by kernel_rfl) ⟨hr2_2, hx2, hr2_4, hx2, hr2_5, hx2, hx4, hx4, len_ob, hx4, hx4, hx6, hx6, ix_ob hx2_14, hx6, hx6, hx6, hx8, hx8, ix_ob hx2_20, hx8, hx8, hx8, hx10, hx10, ix_ob hx2_26, hx10, hx10, hx10, hx12, hr2_31, hx12, hx14, hx14, hx14, trivial⟩ ?_
                refine W_ret ?_
                exact kr [] _ _ (by kernel_rfl) (Option.some.inj h)
            · have hx12 := hb11
              have h := if_f h hx12
              refine W_x (s' := LS.mk 41 [(0, aB false)] []) mixed [(none, [], .no), (none, [], .no), (none, [], .call [] (aB r2_2)), (none, [], .no), (some true, [], .io ⟨[], [], [], [], [], [], [(800000, 8)]⟩ (.ref 800000) [(800000, .row 32 6 (r2_4.map c_GApiNode))]), (some true, [], .call [] (aB r2_5)), (none, [], .dec true), (none, [], .no), (some true, [], .no), (some true, [], .len r1_1.length), (some true, [], .no), (none, [], .dec true), (none, [], .no), (some true, [], .no), (some true, [], .ix (Int.toNat 0) (c_i64 x2_14)), (some true, [], .no), (some true, [], .no), (none, [], .dec true), (none, [], .no), (some true, [], .no), (some true, [], .ix (Int.toNat 1) (c_i64 x2_20)), (some true, [], .no), (some true, [], .no), (none, [], .dec true), (none, [], .no), (some true, [], .no), (some true, [], .ix (Int.toNat 2) (c_i64 x2_26)), (some true, [], .no), (some true, [], .no), (none, [], .dec true), (none, [], .no), (some false, [], .no), (none, [], .dec false), (none, [], .no), (none, [], .no), (none, [], .no), (none, [], .no), (none, [], .no)] ⟨[0], [], [], [], [], [], []⟩ [R_tree_May ([(GApiNode.mk 1 0 0 0 0 ([] : List UInt8))] : List GApiNode) r2_2, r2_2 = true, RI_hindcastlaw05_small r2_4, r2_2 = true, R_tree_May r2_4 r2_5, r2_2 = true, r2_5 = true, r2_5 = true, (r1_1.map c_i64).length = r1_1.length, r2_5 = true, r2_5 = true, (decide ((r1_1.length : Int) = 3)) = true, (decide ((r1_1.length : Int) = 3)) = true, IxOb (r1_1.map c_i64) 0 (Int.toNat 0) (c_i64 x2_14), (decide ((r1_1.length : Int) = 3)) = true, (decide ((r1_1.length : Int) = 3)) = true, (decide ((r1_1.length : Int) = 3)) = true, (decide (x2_14 = 5)) = true, (decide (x2_14 = 5)) = true, IxOb (r1_1.map c_i64) 1 (Int.toNat 1) (c_i64 x2_20), (decide (x2_14 = 5)) = true, (decide (x2_14 = 5)) = true, (decide (x2_14 = 5)) = true, (decide (x2_20 = 6)) = true, (decide (x2_20 = 6)) = true, IxOb (r1_1.map c_i64) 2 (Int.toNat 2) (c_i64 x2_26), (decide (x2_20 = 6)) = true, (decide (x2_20 = 6)) = true, (decide (x2_20 = 6)) = true, (decide (x2_26 = 7)) = false, (decide (x2_26 = 7)) = false] (by kernel_rfl) ⟨hr2_2, hx2, hr2_4, hx2, hr2_5, hx2, hx4, hx4, len_ob, hx4, hx4, hx6, hx6, ix_ob hx2_14, hx6, hx6, hx6, hx8, hx8, ix_ob hx2_20, hx8, hx8, hx8, hx10, hx10, ix_ob hx2_26, hx10, hx10, hx10, hx12, hx12, trivial⟩ ?_
              refine W_ret ?_
              exact kr [] _ _ (by kernel_rfl) (Option.some.inj h)
          · have hx10 := hb9
            have h := if_f h hx10
            refine W_x (s' := LS.mk 41 [(0, aB false)] []) mixed [(none, [], .no), (none, [], .no), (none, [], .call [] (aB r2_2)), (none, [], .no), (some true, [], .io ⟨[], [], [], [], [], [], [(800000, 8)]⟩ (.ref 800000) [(800000, .row 32 6 (r2_4.map c_GApiNode))]), (some true, [], .call [] (aB r2_5)), (none, [], .dec true), (none, [], .no), (some true, [], .no), (some true, [], .len r1_1.length), (some true, [], .no), (none, [], .dec true), (none, [], .no), (some true, [], .no), (some true, [], .ix (Int.toNat 0) (c_i64 x2_14)), (some true, [], .no), (some true, [], .no), (none, [], .dec true), (none, [], .no), (some true, [], .no), (some true, [], .ix (Int.toNat 1) (c_i64 x2_20)), (some true, [], .no), (some true, [], .no), (none, [], .dec true), (none, [], .no), (some false, [], .no), (some false, [], .no), (some false, [], .no), (some false, [], .no), (none, [], .dec false), (none, [], .no), (none, [], .no), (none, [], .no), (none, [], .no), (none, [], .no), (none, [], .no), (none, [], .no), (none, [], .no)] ⟨[0], [], [], [], [], [], []⟩ [R_tree_May ([(GApiNode.mk 1 0 0 0 0 ([] : List UInt8))] : List GApiNode) r2_2, r2_2 = true, RI_hindcastlaw05_small r2_4, r2_2 = true, R_tree_May r2_4 r2_5, r2_2 = true, r2_5 = true, r2_5 = true, (r1_1.map c_i64).length = r1_1.length, r2_5 = true, r2_5 = true, (decide ((r1_1.length : Int) = 3)) = true, (decide ((r1_1.length : Int) = 3)) = true, IxOb (r1_1.map c_i64) 0 (Int.toNat 0) (c_i64 x2_14), (decide ((r1_1.length : Int) = 3)) = true, (decide ((r1_1.length : Int) = 3)) = true, (decide ((r1_1.length : Int) = 3)) = true, (decide (x2_14 = 5)) = true, (decide (x2_14 = 5)) = true, IxOb (r1_1.map c_i64) 1 (Int.toNat 1) (c_i64 x2_20), (decide (x2_14 = 5)) = true, (decide (x2_14 = 5)) = true, (decide (x2_14 = 5)) = true, (decide (x2_20 = 6)) = false, (decide (x2_20 = 6)) = false, (decide (x2_20 = 6)) = false, (decide (x2_20 = 6)) = false, (decide (x2_20 = 6)) = false] (by kernel_rfl) ⟨hr2_2, hx2, hr2_4, hx2, hr2_5, hx2, hx4, hx4, len_ob, hx4, hx4, hx6, hx6, ix_ob hx2_14, hx6, hx6, hx6, hx8, hx8, ix_ob hx2_20, hx8, hx8, hx8, hx10, hx10, hx10, hx10, hx10, trivial⟩ ?_
            refine W_ret ?_
            exact kr [] _ _ (by kernel_rfl) (Option.some.inj h)
        · have hx8 := hb7
          have h := if_f h hx8
          refine W_x (s' := LS.mk 41 [(0, aB false)] []) mixed [(none, [], .no), (none, [], .no), (none, [], .call [] (aB r2_2)), (none, [], .no), (some true, [], .io ⟨[], [], [], [], [], [], [(800000, 8)]⟩ (.ref 800000) [(800000, .row 32 6 (r2_4.map c_GApiNode))]), (some true, [], .call [] (aB r2_5)), (none, [], .dec true), (none, [], .no), (some true, [], .no), (some true, [], .len r1_1.length), (some true, [], .no), (none, [], .dec true), (none, [], .no), (some true, [], .no), (some true, [], .ix (Int.toNat 0) (c_i64 x2_14)), (some true, [], .no), (some true, [], .no), (none, [], .dec true), (none, [], .no), (some false, [], .no), (some false, [], .no), (some false, [], .no), (some false, [], .no), (none, [], .dec false), (none, [], .no), (none, [], .no), (none, [], .no), (none, [], .no), (none, [], .no), (none, [], .no), (none, [], .no), (none, [], .no), (none, [], .no), (none, [], .no), (none, [], .no), (none, [], .no), (none, [], .no), (none, [], .no)] ⟨[0], [], [], [], [], [], []⟩ [R_tree_May ([(GApiNode.mk 1 0 0 0 0 ([] : List UInt8))] : List GApiNode) r2_2, r2_2 = true, RI_hindcastlaw05_small r2_4, r2_2 = true, R_tree_May r2_4 r2_5, r2_2 = true, r2_5 = true, r2_5 = true, (r1_1.map c_i64).length = r1_1.length, r2_5 = true, r2_5 = true, (decide ((r1_1.length : Int) = 3)) = true, (decide ((r1_1.length : Int) = 3)) = true, IxOb (r1_1.map c_i64) 0 (Int.toNat 0) (c_i64 x2_14), (decide ((r1_1.length : Int) = 3)) = true, (decide ((r1_1.length : Int) = 3)) = true, (decide ((r1_1.length : Int) = 3)) = true, (decide (x2_14 = 5)) = false, (decide (x2_14 = 5)) = false, (decide (x2_14 = 5)) = false, (decide (x2_14 = 5)) = false, (decide (x2_14 = 5)) = false] (by kernel_rfl) ⟨hr2_2, hx2, hr2_4, hx2, hr2_5, hx2, hx4, hx4, len_ob, hx4, hx4, hx6, hx6, ix_ob hx2_14, hx6, hx6, hx6, hx8, hx8, hx8, hx8, hx8, trivial⟩ ?_
          refine W_ret ?_
          exact kr [] _ _ (by kernel_rfl) (Option.some.inj h)
      · have hx6 := hb5
        have h := if_f h hx6
        refine W_x (s' := LS.mk 41 [(0, aB false)] []) mixed [(none, [], .no), (none, [], .no), (none, [], .call [] (aB r2_2)), (none, [], .no), (some true, [], .io ⟨[], [], [], [], [], [], [(800000, 8)]⟩ (.ref 800000) [(800000, .row 32 6 (r2_4.map c_GApiNode))]), (some true, [], .call [] (aB r2_5)), (none, [], .dec true), (none, [], .no), (some true, [], .no), (some true, [], .len r1_1.length), (some true, [], .no), (none, [], .dec true), (none, [], .no), (some false, [], .no), (some false, [], .no), (some false, [], .no), (some false, [], .no), (none, [], .dec false), (none, [], .no), (none, [], .no), (none, [], .no), (none, [], .no), (none, [], .no), (none, [], .no), (none, [], .no), (none, [], .no), (none, [], .no), (none, [], .no), (none, [], .no), (none, [], .no), (none, [], .no), (none, [], .no), (none, [], .no), (none, [], .no), (none, [], .no), (none, [], .no), (none, [], .no), (none, [], .no)] ⟨[0], [], [], [], [], [], []⟩ [R_tree_May ([(GApiNode.mk 1 0 0 0 0 ([] : List UInt8))] : List GApiNode) r2_2, r2_2 = true, RI_hindcastlaw05_small r2_4, r2_2 = true, R_tree_May r2_4 r2_5, r2_2 = true, r2_5 = true, r2_5 = true, (r1_1.map c_i64).length = r1_1.length, r2_5 = true, r2_5 = true, (decide ((r1_1.length : Int) = 3)) = false, (decide ((r1_1.length : Int) = 3)) = false, (decide ((r1_1.length : Int) = 3)) = false, (decide ((r1_1.length : Int) = 3)) = false, (decide ((r1_1.length : Int) = 3)) = false] (by kernel_rfl) ⟨hr2_2, hx2, hr2_4, hx2, hr2_5, hx2, hx4, hx4, len_ob, hx4, hx4, hx6, hx6, hx6, hx6, hx6, trivial⟩ ?_
        refine W_ret ?_
        exact kr [] _ _ (by kernel_rfl) (Option.some.inj h)
    · have hx4 := hb3
      have h := ib_f h hx4
      refine W_x (s' := LS.mk 41 [(0, aB false)] []) mixed [(none, [], .no), (none, [], .no), (none, [], .call [] (aB r2_2)), (none, [], .no), (some true, [], .io ⟨[], [], [], [], [], [], [(800000, 8)]⟩ (.ref 800000) [(800000, .row 32 6 (r2_4.map c_GApiNode))]), (some true, [], .call [] (aB r2_5)), (none, [], .dec true), (none, [], .no), (some false, [], .no), (some false, [], .no), (some false, [], .no), (none, [], .dec false), (none, [], .no), (none, [], .no), (none, [], .no), (none, [], .no), (none, [], .no), (none, [], .no), (none, [], .no), (none, [], .no), (none, [], .no), (none, [], .no), (none, [], .no), (none, [], .no), (none, [], .no), (none, [], .no), (none, [], .no), (none, [], .no), (none, [], .no), (none, [], .no), (none, [], .no), (none, [], .no), (none, [], .no), (none, [], .no), (none, [], .no), (none, [], .no), (none, [], .no), (none, [], .no)] ⟨[0], [], [], [], [], [], []⟩ [R_tree_May ([(GApiNode.mk 1 0 0 0 0 ([] : List UInt8))] : List GApiNode) r2_2, r2_2 = true, RI_hindcastlaw05_small r2_4, r2_2 = true, R_tree_May r2_4 r2_5, r2_2 = true, r2_5 = false, r2_5 = false, r2_5 = false, r2_5 = false] (by kernel_rfl) ⟨hr2_2, hx2, hr2_4, hx2, hr2_5, hx2, hx4, hx4, hx4, hx4, trivial⟩ ?_
      refine W_ret ?_
      exact kr [] _ _ (by kernel_rfl) (Option.some.inj h)
  · have hx2 := hb1
    have h := ib_f h hx2
    refine W_x (s' := LS.mk 41 [(0, aB false)] []) mixed [(none, [], .no), (none, [], .no), (none, [], .call [] (aB r2_2)), (none, [], .no), (some false, [], .no), (some false, [], .no), (none, [], .dec false), (none, [], .no), (none, [], .no), (none, [], .no), (none, [], .no), (none, [], .no), (none, [], .no), (none, [], .no), (none, [], .no), (none, [], .no), (none, [], .no), (none, [], .no), (none, [], .no), (none, [], .no), (none, [], .no), (none, [], .no), (none, [], .no), (none, [], .no), (none, [], .no), (none, [], .no), (none, [], .no), (none, [], .no), (none, [], .no), (none, [], .no), (none, [], .no), (none, [], .no), (none, [], .no), (none, [], .no), (none, [], .no), (none, [], .no), (none, [], .no), (none, [], .no)] ⟨[0], [], [], [], [], [], []⟩ [R_tree_May ([(GApiNode.mk 1 0 0 0 0 ([] : List UInt8))] : List GApiNode) r2_2, r2_2 = false, r2_2 = false, r2_2 = false] (by kernel_rfl) ⟨hr2_2, hx2, hx2, hx2, trivial⟩ ?_
    refine W_ret ?_
    exact kr [] _ _ (by kernel_rfl) (Option.some.inj h)
end Go.Proofs.Ytahioekdpndohaa
