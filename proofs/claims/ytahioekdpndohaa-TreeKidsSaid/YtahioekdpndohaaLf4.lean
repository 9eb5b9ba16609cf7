/- Functions of the program, lifted. -/
import Derived.Test.YtahioekdpndohaaLf3
namespace Go.Proofs.Ytahioekdpndohaa
open Go.RowKit
set_option linter.unusedVariables false
set_option maxHeartbeats 4000000
def R_hindcastref05_end (a0 : (List GApiNode)) (a1 : Int) (r : Int) : Prop := FnP Try.prog 27 [.t (.sl 6 (a0.map c_GApiNode)), aI .i64 a1] (aI .i64 r)
inductive hindcastref05_end_C where
  | l0 (a0 : (List GApiNode)) (a1 : Int) (x1_7 : GApiNode) (v0_6_0 : Int)
  | j1 (a1 : Int) (x1_7 : GApiNode) (v0_6_0 : Int)
  | run (a0 : (List GApiNode)) (a1 : Int)
abbrev hindcastref05_end_C_T : hindcastref05_end_C → Type := fun _ => Int
noncomputable def hindcastref05_end_l0_b (g : (i : hindcastref05_end_C) → Option (hindcastref05_end_C_T i)) (a0 : (List GApiNode)) (a1 : Int) (x1_7 : GApiNode) (v0_6_0 : Int) : Option Int :=
  (if v0_6_0 ≥ 0 then (if v0_6_0 < (IntKind.wrap .i64 ((IntKind.wrap .i64 (a1 + 1)) + x1_7.Size)) then ((g (.run a0 v0_6_0) : Option Int).bind fun (r6_2 : Int) => g (.l0 a0 a1 x1_7 r6_2)) else g (.j1 a1 x1_7 v0_6_0)) else g (.j1 a1 x1_7 v0_6_0))
noncomputable def hindcastref05_end_j1_b (g : (i : hindcastref05_end_C) → Option (hindcastref05_end_C_T i)) (a1 : Int) (x1_7 : GApiNode) (v0_6_0 : Int) : Option Int :=
  (if v0_6_0 = (IntKind.wrap .i64 ((IntKind.wrap .i64 (a1 + 1)) + x1_7.Size)) then (some (IntKind.wrap .i64 ((IntKind.wrap .i64 (a1 + 1)) + x1_7.Size))) else (some (-1)))
noncomputable def hindcastref05_end_b (g : (i : hindcastref05_end_C) → Option (hindcastref05_end_C_T i)) (a0 : (List GApiNode)) (a1 : Int) : Option Int :=
  (if a1 ≥ (a0.length : Int) then (some (-1)) else ((getI a0 a1).bind fun (x1_7 : GApiNode) => (if x1_7.Size < 0 then (some (-1)) else (if x1_7.Size > (IntKind.wrap .i64 ((IntKind.wrap .i64 ((a0.length : Int) - 1)) - a1)) then (some (-1)) else g (.l0 a0 a1 x1_7 (IntKind.wrap .i64 (a1 + 1)))))))
noncomputable def hindcastref05_end_B (g : (i : hindcastref05_end_C) → Option (hindcastref05_end_C_T i)) : (i : hindcastref05_end_C) → Option (hindcastref05_end_C_T i)
  | .l0 a0 a1 x1_7 v0_6_0 => hindcastref05_end_l0_b g a0 a1 x1_7 v0_6_0
  | .j1 a1 x1_7 v0_6_0 => hindcastref05_end_j1_b g a1 x1_7 v0_6_0
  | .run a0 a1 => hindcastref05_end_b g a0 a1
theorem hindcastref05_end_B_fin (i : hindcastref05_end_C) : Fin1 (fun g => hindcastref05_end_B g i) := by
  cases i with
  | l0 a0 a1 x1_7 v0_6_0 => show Fin1 (fun g => hindcastref05_end_l0_b g a0 a1 x1_7 v0_6_0); unfold hindcastref05_end_l0_b; repeat (first | refine fin_bind ?_ (fun _ => ?_) | refine fin_ite ?_ ?_ | exact fin_ask _ | exact fin_const _)
  | j1 a1 x1_7 v0_6_0 => show Fin1 (fun g => hindcastref05_end_j1_b g a1 x1_7 v0_6_0); unfold hindcastref05_end_j1_b; repeat (first | refine fin_bind ?_ (fun _ => ?_) | refine fin_ite ?_ ?_ | exact fin_ask _ | exact fin_const _)
  | run a0 a1 => show Fin1 (fun g => hindcastref05_end_b g a0 a1); unfold hindcastref05_end_b; repeat (first | refine fin_bind ?_ (fun _ => ?_) | refine fin_ite ?_ ?_ | exact fin_ask _ | exact fin_const _)
noncomputable def hindcastref05_end_l0 (a0 : (List GApiNode)) (a1 : Int) (x1_7 : GApiNode) (v0_6_0 : Int) : Option Int := fixD hindcastref05_end_B (.l0 a0 a1 x1_7 v0_6_0)
noncomputable def hindcastref05_end_j1 (a1 : Int) (x1_7 : GApiNode) (v0_6_0 : Int) : Option Int := fixD hindcastref05_end_B (.j1 a1 x1_7 v0_6_0)
noncomputable def hindcastref05_end (a0 : (List GApiNode)) (a1 : Int) : Option Int := fixD hindcastref05_end_B (.run a0 a1)
theorem hindcastref05_end_l0_eq (a0 : (List GApiNode)) (a1 : Int) (x1_7 : GApiNode) (v0_6_0 : Int) : hindcastref05_end_l0 a0 a1 x1_7 v0_6_0 =
  (if v0_6_0 ≥ 0 then (if v0_6_0 < (IntKind.wrap .i64 ((IntKind.wrap .i64 (a1 + 1)) + x1_7.Size)) then ((hindcastref05_end a0 v0_6_0 : Option Int).bind fun (r6_2 : Int) => hindcastref05_end_l0 a0 a1 x1_7 r6_2) else hindcastref05_end_j1 a1 x1_7 v0_6_0) else hindcastref05_end_j1 a1 x1_7 v0_6_0) := fix_eq hindcastref05_end_B_fin _
theorem hindcastref05_end_j1_eq (a1 : Int) (x1_7 : GApiNode) (v0_6_0 : Int) : hindcastref05_end_j1 a1 x1_7 v0_6_0 =
  (if v0_6_0 = (IntKind.wrap .i64 ((IntKind.wrap .i64 (a1 + 1)) + x1_7.Size)) then (some (IntKind.wrap .i64 ((IntKind.wrap .i64 (a1 + 1)) + x1_7.Size))) else (some (-1))) := fix_eq hindcastref05_end_B_fin _
theorem hindcastref05_end_eq (a0 : (List GApiNode)) (a1 : Int) : hindcastref05_end a0 a1 =
  (if a1 ≥ (a0.length : Int) then (some (-1)) else ((getI a0 a1).bind fun (x1_7 : GApiNode) => (if x1_7.Size < 0 then (some (-1)) else (if x1_7.Size > (IntKind.wrap .i64 ((IntKind.wrap .i64 ((a0.length : Int) - 1)) - a1)) then (some (-1)) else hindcastref05_end_l0 a0 a1 x1_7 (IntKind.wrap .i64 (a1 + 1)))))) := fix_eq hindcastref05_end_B_fin _
set_option maxRecDepth 100000 in
theorem hindcastref05_end_l0_ok (n : Nat) (hrec_hindcastref05_end : ∀ q, q < n → ∀ (a0 : (List GApiNode)) (a1 : Int) (r : Int), recN hindcastref05_end_B q (.run a0 a1) = some r → R_hindcastref05_end a0 a1 r) (a0 : (List GApiNode)) (a1 : Int) (x1_7 : GApiNode) (v0_6_0 : Int) (r_ : Int) (Q' : Exit → St → Prop) (kr : ∀ (ns : List (Nat × Nat × Nat)) (s : LS) (x : Int), retX Try.prog ns [.tmp 4] s = some (aI .i64 x) → x = r_ → Q' .ret s.st) (k_x_0 : ∀ (q : Nat), q < n → ∀ (v0_6_0 : Int) (s' : LS), recN hindcastref05_end_B q (.j1 a1 x1_7 v0_6_0) = some r_ → Fits s'.st (LS.mk 56 [(5, aI .i64 (IntKind.wrap .i64 ((IntKind.wrap .i64 (a1 + 1)) + x1_7.Size))), (6, aI .i64 v0_6_0)] []).st → Q' (.exit 0) s'.st) (h : recN hindcastref05_end_B n (.l0 a0 a1 x1_7 v0_6_0) = some r_) : W Try.prog (subC (bodyC Try.prog 27) [1, 1, 1, 1, 0, 0]) (LS.mk 56 [(0, .t (.sl 6 (a0.map c_GApiNode))), (5, aI .i64 (IntKind.wrap .i64 ((IntKind.wrap .i64 (a1 + 1)) + x1_7.Size))), (6, aI .i64 v0_6_0)] []).st Q' := by
  refine W_fix (σ := Int) (fun m x_ => m ≤ n ∧ recN hindcastref05_end_B m (.l0 a0 a1 x1_7 x_) = some r_) (fun x_ => LS.mk 56 [(0, .t (.sl 6 (a0.map c_GApiNode))), (5, aI .i64 (IntKind.wrap .i64 ((IntKind.wrap .i64 (a1 + 1)) + x1_7.Size))), (6, aI .i64 x_)] []) (fun x hx => by cases hx.2) (fun _ _ => rfl) ?_ n (v0_6_0) ⟨Nat.le_refl _, h⟩
  clear h
  rintro m v0_6_0 ⟨hlt, h⟩
  replace h : hindcastref05_end_l0_b (recN hindcastref05_end_B m) a0 a1 x1_7 v0_6_0 = some r_ := h
  unfold hindcastref05_end_l0_b at h
  refine W_seq ?_
  refine W_seq ?_
  refine (Bool.eq_false_or_eq_true (decide (v0_6_0 ≥ 0))).elim (fun hb1001 => ?_) (fun hb1001 => ?_)
  · have hx1002 := hb1001
    have h := if_t h hx1002
    refine W_x (s' := LS.mk 56 [(0, .t (.sl 6 (a0.map c_GApiNode))), (5, aI .i64 (IntKind.wrap .i64 ((IntKind.wrap .i64 (a1 + 1)) + x1_7.Size))), (6, aI .i64 v0_6_0), (48, aB (decide (v0_6_0 < (IntKind.wrap .i64 ((IntKind.wrap .i64 (a1 + 1)) + x1_7.Size)))))] []) mixed [(none, [], .no), (none, [], .no), (none, [], .no), (some true, [], .no), (some true, [], .no), (some true, [], .no), (none, [], .dec true)] ⟨[0, 5, 6, 48], [], [], [], [], [], []⟩ [(decide (v0_6_0 ≥ 0)) = true, (decide (v0_6_0 ≥ 0)) = true, (decide (v0_6_0 ≥ 0)) = true, (decide (v0_6_0 ≥ 0)) = true] (by kernel_rfl) ⟨hx1002, hx1002, hx1002, hx1002, trivial⟩ ?_
    refine W_cond (decide (v0_6_0 < (IntKind.wrap .i64 ((IntKind.wrap .i64 (a1 + 1)) + x1_7.Size)))) (by kernel_rfl) (fun hb1003 => ?_) (fun hb1003 => ?_)
    · have hx1004 := hb1003
      have h := if_t h hx1004
      refine W_skip ?_
      refine W_block ?_
      obtain ⟨r6_2, hr6_2, h⟩ := bind_ok h
      have hr6_2 := hrec_hindcastref05_end m hlt _ _ _ hr6_2
      refine W_x (s' := LS.mk 56 [(0, .t (.sl 6 (a0.map c_GApiNode))), (5, aI .i64 (IntKind.wrap .i64 ((IntKind.wrap .i64 (a1 + 1)) + x1_7.Size))), (6, aI .i64 r6_2)] []) mixed [(none, [], .no), (none, [], .no), (none, [], .call [] (aI .i64 r6_2)), (none, [], .no)] ⟨[0, 5, 6], [], [], [], [], [], []⟩ [R_hindcastref05_end a0 v0_6_0 r6_2] (by kernel_rfl) ⟨hr6_2, trivial⟩ ?_
      exact ⟨m, (r6_2), Nat.le_refl _, ⟨Nat.le_of_lt hlt, h⟩, convX_fits (v := ⟨[0, 5, 6], [], [], [], [], [], []⟩) (s' := LS.mk 56 [(0, .t (.sl 6 (a0.map c_GApiNode))), (5, aI .i64 (IntKind.wrap .i64 ((IntKind.wrap .i64 (a1 + 1)) + x1_7.Size))), (6, aI .i64 r6_2)] []) (by kernel_rfl)⟩
    · have hx1004 := hb1003
      have h := if_f h hx1004
      refine W_exit ?_
      exact k_x_0 m hlt v0_6_0 _ h (convX_fits (v := ⟨[5, 6], [], [], [], [], [], []⟩) (s' := LS.mk 56 [(5, aI .i64 (IntKind.wrap .i64 ((IntKind.wrap .i64 (a1 + 1)) + x1_7.Size))), (6, aI .i64 v0_6_0)] []) (by kernel_rfl))
  · have hx1002 := hb1001
    have h := if_f h hx1002
    refine W_x (s' := LS.mk 56 [(0, .t (.sl 6 (a0.map c_GApiNode))), (5, aI .i64 (IntKind.wrap .i64 ((IntKind.wrap .i64 (a1 + 1)) + x1_7.Size))), (6, aI .i64 v0_6_0), (48, aB false)] []) mixed [(none, [], .no), (none, [], .no), (none, [], .no), (some false, [], .no), (some false, [], .no), (some false, [], .no), (none, [], .dec false)] ⟨[0, 5, 6, 48], [], [], [], [], [], []⟩ [(decide (v0_6_0 ≥ 0)) = false, (decide (v0_6_0 ≥ 0)) = false, (decide (v0_6_0 ≥ 0)) = false, (decide (v0_6_0 ≥ 0)) = false] (by kernel_rfl) ⟨hx1002, hx1002, hx1002, hx1002, trivial⟩ ?_
    refine W_cond false (by kernel_rfl) (fun hb => nomatch ((rfl : false = false).symm.trans hb)) (fun _ => ?_)
    refine W_exit ?_
    exact k_x_0 m hlt v0_6_0 _ h (convX_fits (v := ⟨[5, 6], [], [], [], [], [], []⟩) (s' := LS.mk 56 [(5, aI .i64 (IntKind.wrap .i64 ((IntKind.wrap .i64 (a1 + 1)) + x1_7.Size))), (6, aI .i64 v0_6_0)] []) (by kernel_rfl))
set_option maxRecDepth 100000 in
theorem hindcastref05_end_j1_ok (n : Nat) (hrec_hindcastref05_end : ∀ q, q < n → ∀ (a0 : (List GApiNode)) (a1 : Int) (r : Int), recN hindcastref05_end_B q (.run a0 a1) = some r → R_hindcastref05_end a0 a1 r) (a1 : Int) (x1_7 : GApiNode) (v0_6_0 : Int) (r_ : Int) (Q' : Exit → St → Prop) (kr : ∀ (ns : List (Nat × Nat × Nat)) (s : LS) (x : Int), retX Try.prog ns [.tmp 4] s = some (aI .i64 x) → x = r_ → Q' .ret s.st)  (h : recN hindcastref05_end_B n (.j1 a1 x1_7 v0_6_0) = some r_) : W Try.prog (subC (bodyC Try.prog 27) [1, 1, 1, 1, 1]) (LS.mk 56 [(5, aI .i64 (IntKind.wrap .i64 ((IntKind.wrap .i64 (a1 + 1)) + x1_7.Size))), (6, aI .i64 v0_6_0)] []).st Q' := by
  cases n with
  | zero => cases h
  | succ m =>
  have hlt : m < m + 1 := Nat.lt_succ_self m
  replace h : hindcastref05_end_j1_b (recN hindcastref05_end_B m) a1 x1_7 v0_6_0 = some r_ := h
  unfold hindcastref05_end_j1_b at h
  refine W_seq ?_
  refine W_seq ?_
  refine W_x (s' := LS.mk 56 [(5, aI .i64 (IntKind.wrap .i64 ((IntKind.wrap .i64 (a1 + 1)) + x1_7.Size))), (54, aB (!(decide (v0_6_0 = (IntKind.wrap .i64 ((IntKind.wrap .i64 (a1 + 1)) + x1_7.Size))))))] []) mixed [(none, [], .no), (none, [], .no), (none, [], .no)] ⟨[5, 54], [], [], [], [], [], []⟩ [] (by kernel_rfl) trivial ?_
  refine W_cond (!(decide (v0_6_0 = (IntKind.wrap .i64 ((IntKind.wrap .i64 (a1 + 1)) + x1_7.Size))))) (by kernel_rfl) (fun hb2001 => ?_) (fun hb2001 => ?_)
  · have hx2002 : (decide (v0_6_0 = (IntKind.wrap .i64 ((IntKind.wrap .i64 (a1 + 1)) + x1_7.Size)))) = false := (bnot_t hb2001)
    have h := if_f h hx2002
    refine W_seq ?_
    refine W_x (s' := LS.mk 56 [(4, aI .i64 (-1))] []) mixed [(none, [], .no)] ⟨[4], [], [], [], [], [], []⟩ [] (by kernel_rfl) trivial ?_
    refine W_ret ?_
    exact kr [] _ _ (by kernel_rfl) (Option.some.inj h)
  · have hx2002 : (decide (v0_6_0 = (IntKind.wrap .i64 ((IntKind.wrap .i64 (a1 + 1)) + x1_7.Size)))) = true := (bnot_f hb2001)
    have h := if_t h hx2002
    refine W_skip ?_
    refine W_seq ?_
    refine W_x (s' := LS.mk 56 [(4, aI .i64 (IntKind.wrap .i64 ((IntKind.wrap .i64 (a1 + 1)) + x1_7.Size)))] []) mixed [(none, [], .no), (none, [], .no)] ⟨[4], [], [], [], [], [], []⟩ [] (by kernel_rfl) trivial ?_
    refine W_ret ?_
    exact kr [] _ _ (by kernel_rfl) (Option.some.inj h)
set_option maxRecDepth 100000 in
theorem hindcastref05_end_main (n : Nat) (hrec_hindcastref05_end : ∀ q, q < n → ∀ (a0 : (List GApiNode)) (a1 : Int) (r : Int), recN hindcastref05_end_B q (.run a0 a1) = some r → R_hindcastref05_end a0 a1 r) (a0 : (List GApiNode)) (a1 : Int) (r_ : Int) (h : recN hindcastref05_end_B n (.run a0 a1) = some r_) : R_hindcastref05_end a0 a1 r_ := by
  cases n with
  | zero => cases h
  | succ m =>
  have hlt : m < m + 1 := Nat.lt_succ_self m
  replace h : hindcastref05_end_b (recN hindcastref05_end_B m) a0 a1 = some r_ := h
  unfold hindcastref05_end_b at h
  refine fn_pureX (fn := Try.f27) (by kernel_rfl) (c := subC (bodyC Try.prog 27) []) (by kernel_rfl) (by kernel_rfl) (Nat.le_of_ble_eq_true (by kernel_rfl)) ?_
  generalize hQ' : retQ Try.prog Try.f27 (aI .i64 r_) = Q'
  have kr : ∀ (ns : List (Nat × Nat × Nat)) (s : LS) (x : Int), retX Try.prog ns [.tmp 4] s = some (aI .i64 x) → x = r_ → Q' .ret s.st := by subst hQ'; intro ns s x hx hq; subst hq; exact ret_ok (fn := Try.f27) ns hx
  change W Try.prog _ (LS.mk 56 [(0, .t (.sl 6 (a0.map c_GApiNode))), (1, aI .i64 a1)] []).st Q'
  refine W_seq ?_
  refine W_x (s' := LS.mk 56 [(0, .t (.sl 6 (a0.map c_GApiNode))), (1, aI .i64 a1)] []) mixed [(none, [], .no)] ⟨[0, 1], [], [], [], [], [], []⟩ [] (by kernel_rfl) trivial ?_
  refine W_seq ?_
  refine W_seq ?_
  refine (Bool.eq_false_or_eq_true (decide (a1 ≥ (a0.length : Int)))).elim (fun hb1 => ?_) (fun hb1 => ?_)
  · have hx2 := hb1
    have h := if_t h hx2
    refine W_x (s' := LS.mk 56 [(0, .t (.sl 6 (a0.map c_GApiNode))), (1, aI .i64 a1), (31, aB true)] []) mixed [(none, [], .no), (none, [], .no), (none, [], .len a0.length), (none, [], .no), (none, [], .no), (some true, [], .no), (some true, [], .no), (some true, [], .no), (some true, [], .no), (some true, [], .no), (some true, [], .no), (none, [], .dec true), (none, [], .no), (none, [], .no), (none, [], .no), (none, [], .no), (none, [], .no), (none, [], .no), (none, [], .no), (none, [], .no), (none, [], .no), (none, [], .no), (none, [], .no), (none, [], .no), (none, [], .no)] ⟨[0, 1, 31], [], [], [], [], [], []⟩ [(a0.map c_GApiNode).length = a0.length, (decide (a1 ≥ (a0.length : Int))) = true, (decide (a1 ≥ (a0.length : Int))) = true, (decide (a1 ≥ (a0.length : Int))) = true, (decide (a1 ≥ (a0.length : Int))) = true, (decide (a1 ≥ (a0.length : Int))) = true, (decide (a1 ≥ (a0.length : Int))) = true, (decide (a1 ≥ (a0.length : Int))) = true] (by kernel_rfl) ⟨len_ob, hx2, hx2, hx2, hx2, hx2, hx2, hx2, trivial⟩ ?_
    refine W_cond true (by kernel_rfl) (fun _ => ?_) (fun hb => nomatch ((rfl : true = true).symm.trans hb))
    refine W_seq ?_
    refine W_x (s' := LS.mk 56 [(4, aI .i64 (-1))] []) mixed [(none, [], .no)] ⟨[4], [], [], [], [], [], []⟩ [] (by kernel_rfl) trivial ?_
    refine W_ret ?_
    exact kr [] _ _ (by kernel_rfl) (Option.some.inj h)
  · have hx2 := hb1
    have h := if_f h hx2
    obtain ⟨x1_7, hx1_7, h⟩ := bind_ok h
    refine (Bool.eq_false_or_eq_true (decide (x1_7.Size < 0))).elim (fun hb3 => ?_) (fun hb3 => ?_)
    · have hx4 := hb3
      have h := if_t h hx4
      refine W_x (s' := LS.mk 56 [(0, .t (.sl 6 (a0.map c_GApiNode))), (1, aI .i64 a1), (31, aB true)] []) mixed [(none, [], .no), (none, [], .no), (none, [], .len a0.length), (none, [], .no), (none, [], .no), (some false, [], .no), (some false, [], .no), (some false, [], .ix (Int.toNat a1) (c_GApiNode x1_7)), (some false, [], .no), (some false, [], .no), (some false, [], .no), (none, [], .dec false), (none, [], .no), (some true, [], .no), (some true, [], .no), (some true, [], .no), (some true, [], .no), (some true, [], .no), (some true, [], .no), (some true, [], .no), (some true, [], .no), (some true, [], .no), (some true, [], .no), (some true, [], .no), (none, [], .dec true)] ⟨[0, 1, 31], [], [], [], [], [], []⟩ [(a0.map c_GApiNode).length = a0.length, (decide (a1 ≥ (a0.length : Int))) = false, (decide (a1 ≥ (a0.length : Int))) = false, (decide (a1 ≥ (a0.length : Int))) = false, IxOb (a0.map c_GApiNode) a1 (Int.toNat a1) (c_GApiNode x1_7), (decide (a1 ≥ (a0.length : Int))) = false, (decide (a1 ≥ (a0.length : Int))) = false, (decide (a1 ≥ (a0.length : Int))) = false, (decide (a1 ≥ (a0.length : Int))) = false, (decide (x1_7.Size < 0)) = true, (decide (x1_7.Size < 0)) = true, (decide (x1_7.Size < 0)) = true, (decide (x1_7.Size < 0)) = true, (decide (x1_7.Size < 0)) = true, (decide (x1_7.Size < 0)) = true, (decide (x1_7.Size < 0)) = true, (decide (x1_7.Size < 0)) = true, (decide (x1_7.Size < 0)) = true, (decide (x1_7.Size < 0)) = true, (decide (x1_7.Size < 0)) = true, (decide (x1_7.Size < 0)) = true] (by kernel_rfl) ⟨len_ob, hx2, hx2, hx2, ix_ob hx1_7, hx2, hx2, hx2, hx2, hx4, hx4, hx4, hx4, hx4, hx4, hx4, hx4, hx4, hx4, hx4, hx4, trivial⟩ ?_
      refine W_cond true (by kernel_rfl) (fun _ => ?_) (fun hb => nomatch ((rfl : true = true).symm.trans hb))
      refine W_seq ?_
      refine W_x (s' := LS.mk 56 [(4, aI .i64 (-1))] []) mixed [(none, [], .no)] ⟨[4], [], [], [], [], [], []⟩ [] (by kernel_rfl) trivial ?_
      refine W_ret ?_
      exact kr [] _ _ (by kernel_rfl) (Option.some.inj h)
    · have hx4 := hb3
      have h := if_f h hx4
      refine W_x (s' := LS.mk 56 [(0, .t (.sl 6 (a0.map c_GApiNode))), (1, aI .i64 a1), (31, aB (decide (x1_7.Size > (IntKind.wrap .i64 ((IntKind.wrap .i64 ((a0.length : Int) - 1)) - a1)))))] []) mixed [(none, [], .no), (none, [], .no), (none, [], .len a0.length), (none, [], .no), (none, [], .no), (some false, [], .no), (some false, [], .no), (some false, [], .ix (Int.toNat a1) (c_GApiNode x1_7)), (some false, [], .no), (some false, [], .no), (some false, [], .no), (none, [], .dec false), (none, [], .no), (some false, [], .no), (some false, [], .no), (some false, [], .ix (Int.toNat a1) (c_GApiNode x1_7)), (some false, [], .no), (some false, [], .no), (some false, [], .no), (some false, [], .len a0.length), (some false, [], .no), (some false, [], .no), (some false, [], .no), (some false, [], .no), (none, [], .dec false)] ⟨[0, 1, 31], [], [], [], [], [], []⟩ [(a0.map c_GApiNode).length = a0.length, (decide (a1 ≥ (a0.length : Int))) = false, (decide (a1 ≥ (a0.length : Int))) = false, (decide (a1 ≥ (a0.length : Int))) = false, IxOb (a0.map c_GApiNode) a1 (Int.toNat a1) (c_GApiNode x1_7), (decide (a1 ≥ (a0.length : Int))) = false, (decide (a1 ≥ (a0.length : Int))) = false, (decide (a1 ≥ (a0.length : Int))) = false, (decide (a1 ≥ (a0.length : Int))) = false, (decide (x1_7.Size < 0)) = false, (decide (x1_7.Size < 0)) = false, (decide (x1_7.Size < 0)) = false, IxOb (a0.map c_GApiNode) a1 (Int.toNat a1) (c_GApiNode x1_7), (decide (x1_7.Size < 0)) = false, (decide (x1_7.Size < 0)) = false, (decide (x1_7.Size < 0)) = false, (decide (x1_7.Size < 0)) = false, (a0.map c_GApiNode).length = a0.length, (decide (x1_7.Size < 0)) = false, (decide (x1_7.Size < 0)) = false, (decide (x1_7.Size < 0)) = false, (decide (x1_7.Size < 0)) = false, (decide (x1_7.Size < 0)) = false] (by kernel_rfl) ⟨len_ob, hx2, hx2, hx2, ix_ob hx1_7, hx2, hx2, hx2, hx2, hx4, hx4, hx4, ix_ob hx1_7, hx4, hx4, hx4, hx4, len_ob, hx4, hx4, hx4, hx4, hx4, trivial⟩ ?_
      refine W_cond (decide (x1_7.Size > (IntKind.wrap .i64 ((IntKind.wrap .i64 ((a0.length : Int) - 1)) - a1)))) (by kernel_rfl) (fun hb5 => ?_) (fun hb5 => ?_)
      · have hx6 := hb5
        have h := if_t h hx6
        refine W_seq ?_
        refine W_x (s' := LS.mk 56 [(4, aI .i64 (-1))] []) mixed [(none, [], .no)] ⟨[4], [], [], [], [], [], []⟩ [] (by kernel_rfl) trivial ?_
        refine W_ret ?_
        exact kr [] _ _ (by kernel_rfl) (Option.some.inj h)
      · have hx6 := hb5
        have h := if_f h hx6
        refine W_skip ?_
        refine W_seq ?_
        refine W_x (s' := LS.mk 56 [(0, .t (.sl 6 (a0.map c_GApiNode))), (1, aI .i64 a1), (5, aI .i64 (IntKind.wrap .i64 ((IntKind.wrap .i64 (a1 + 1)) + x1_7.Size)))] []) mixed [(none, [], .no), (none, [], .no), (none, [], .no), (none, [], .no), (none, [], .ix (Int.toNat a1) (c_GApiNode x1_7)), (none, [], .no), (none, [], .no), (none, [], .no), (none, [], .no)] ⟨[0, 1, 5], [], [], [], [], [], []⟩ [IxOb (a0.map c_GApiNode) a1 (Int.toNat a1) (c_GApiNode x1_7)] (by kernel_rfl) ⟨ix_ob hx1_7, trivial⟩ ?_
        refine W_seq ?_
        refine W_x (s' := LS.mk 56 [(0, .t (.sl 6 (a0.map c_GApiNode))), (5, aI .i64 (IntKind.wrap .i64 ((IntKind.wrap .i64 (a1 + 1)) + x1_7.Size))), (6, aI .i64 (IntKind.wrap .i64 (a1 + 1)))] []) mixed [(none, [], .no), (none, [], .no), (none, [], .no)] ⟨[0, 5, 6], [], [], [], [], [], []⟩ [] (by kernel_rfl) trivial ?_
        refine W_seq ?_
        refine W_block ?_
        exact W_conv (s' := LS.mk 56 [(0, .t (.sl 6 (a0.map c_GApiNode))), (5, aI .i64 (IntKind.wrap .i64 ((IntKind.wrap .i64 (a1 + 1)) + x1_7.Size))), (6, aI .i64 (IntKind.wrap .i64 (a1 + 1)))] []) ⟨[0, 5, 6], [], [], [], [], [], []⟩ (by kernel_rfl) (hindcastref05_end_l0_ok m (fun q hq => hrec_hindcastref05_end q (Nat.lt_trans hq hlt)) a0 a1 x1_7 (IntKind.wrap .i64 (a1 + 1)) r_ _ kr (fun q1 hq1 v0_6_0 s' h hf => W_pre hf (hindcastref05_end_j1_ok q1 (fun q hq => hrec_hindcastref05_end q (Nat.lt_trans hq (Nat.lt_trans hq1 hlt))) a1 x1_7 v0_6_0 r_ _ kr h)) h)
theorem hindcastref05_end_all (n : Nat) : ∀ q, q < n → (∀ (a0 : (List GApiNode)) (a1 : Int) (r : Int), recN hindcastref05_end_B q (.run a0 a1) = some r → R_hindcastref05_end a0 a1 r) := by
  induction n with
  | zero => exact fun q hq => absurd hq (Nat.not_lt_zero q)
  | succ n ih => exact fun q hq => have hr := fun q' (hq' : q' < q) => ih q' (Nat.lt_of_lt_of_le hq' (Nat.le_of_lt_succ hq)); fun a0 a1 r h => hindcastref05_end_main q hr a0 a1 r h
theorem hindcastref05_end_ok {a0 : (List GApiNode)} {a1 : Int} {r : Int} (h : hindcastref05_end a0 a1 = some r) : R_hindcastref05_end a0 a1 r := by
  obtain ⟨n, hn⟩ := fix_rec (show fixD hindcastref05_end_B (.run a0 a1) = some r from h)
  exact (hindcastref05_end_all (n + 1) n (Nat.lt_succ_self n)) _ _ _ hn
def R_hindcastref05_Right (a0 : (List GApiNode)) (r : Bool) : Prop := FnP Try.prog 11 [.t (.sl 6 (a0.map c_GApiNode))] (aB r)
noncomputable def hindcastref05_Right (a0 : (List GApiNode)) : Option Bool :=
  (if (a0.length : Int) > 0 then ((hindcastref05_end a0 0).bind fun (r1_5 : Int) => (some (decide (r1_5 = (a0.length : Int))))) else (some false))
set_option maxRecDepth 100000 in
theorem hindcastref05_Right_ok {a0 : (List GApiNode)} {r_ : Bool} (h : hindcastref05_Right a0 = some r_) : R_hindcastref05_Right a0 r_ := by
  unfold hindcastref05_Right at h
  refine fn_pureX (fn := Try.f11) (by kernel_rfl) (c := subC (bodyC Try.prog 11) []) (by kernel_rfl) (by kernel_rfl) (Nat.le_of_ble_eq_true (by kernel_rfl)) ?_
  generalize hQ' : retQ Try.prog Try.f11 (aB r_) = Q'
  have kr : ∀ (ns : List (Nat × Nat × Nat)) (s : LS) (x : Bool), retX Try.prog ns [.tmp 2] s = some (aB x) → x = r_ → Q' .ret s.st := by subst hQ'; intro ns s x hx hq; subst hq; exact ret_ok (fn := Try.f11) ns hx
  change W Try.prog _ (LS.mk 13 [(0, .t (.sl 6 (a0.map c_GApiNode)))] []).st Q'
  refine W_seq ?_
  refine W_x (s' := LS.mk 13 [(0, .t (.sl 6 (a0.map c_GApiNode)))] []) mixed [(none, [], .no)] ⟨[0], [], [], [], [], [], []⟩ [] (by kernel_rfl) trivial ?_
  refine W_seq ?_
  refine (Bool.eq_false_or_eq_true (decide ((a0.length : Int) > 0))).elim (fun hb1 => ?_) (fun hb1 => ?_)
  · have hx2 := hb1
    have h := if_t h hx2
    obtain ⟨r1_5, hr1_5, h⟩ := bind_ok h
    have hr1_5 := hindcastref05_end_ok hr1_5
    refine W_x (s' := LS.mk 13 [(2, aB (decide (r1_5 = (a0.length : Int))))] []) mixed [(none, [], .no), (none, [], .len a0.length), (none, [], .no), (none, [], .no), (some true, [], .no), (some true, [], .call [] (aI .i64 r1_5)), (some true, [], .no), (some true, [], .len a0.length), (some true, [], .no), (none, [], .dec true), (none, [], .no)] ⟨[2], [], [], [], [], [], []⟩ [(a0.map c_GApiNode).length = a0.length, (decide ((a0.length : Int) > 0)) = true, (decide ((a0.length : Int) > 0)) = true, R_hindcastref05_end a0 0 r1_5, (decide ((a0.length : Int) > 0)) = true, (decide ((a0.length : Int) > 0)) = true, (a0.map c_GApiNode).length = a0.length, (decide ((a0.length : Int) > 0)) = true, (decide ((a0.length : Int) > 0)) = true] (by kernel_rfl) ⟨len_ob, hx2, hx2, hr1_5, hx2, hx2, len_ob, hx2, hx2, trivial⟩ ?_
    refine W_ret ?_
    exact kr [] _ _ (by kernel_rfl) (Option.some.inj h)
  · have hx2 := hb1
    have h := if_f h hx2
    refine W_x (s' := LS.mk 13 [(2, aB false)] []) mixed [(none, [], .no), (none, [], .len a0.length), (none, [], .no), (none, [], .no), (some false, [], .no), (some false, [], .no), (some false, [], .no), (some false, [], .no), (some false, [], .no), (none, [], .dec false), (none, [], .no)] ⟨[2], [], [], [], [], [], []⟩ [(a0.map c_GApiNode).length = a0.length, (decide ((a0.length : Int) > 0)) = false, (decide ((a0.length : Int) > 0)) = false, (decide ((a0.length : Int) > 0)) = false, (decide ((a0.length : Int) > 0)) = false, (decide ((a0.length : Int) > 0)) = false, (decide ((a0.length : Int) > 0)) = false] (by kernel_rfl) ⟨len_ob, hx2, hx2, hx2, hx2, hx2, hx2, trivial⟩ ?_
    refine W_ret ?_
    exact kr [] _ _ (by kernel_rfl) (Option.some.inj h)
def R_tree_Up (a0 : (List GApiNode)) (a1 : Int) (r : Int) : Prop := FnP Try.prog 19 [.t (.sl 6 (a0.map c_GApiNode)), aI .i64 a1] (aI .i64 r)
inductive tree_Up_C where
  | l0 (a0 : (List GApiNode)) (a1 : Int) (v0_5_0 : Int)
  | j1 
abbrev tree_Up_C_T : tree_Up_C → Type := fun _ => Int
noncomputable def tree_Up_l0_b (g : (i : tree_Up_C) → Option (tree_Up_C_T i)) (a0 : (List GApiNode)) (a1 : Int) (v0_5_0 : Int) : Option Int :=
  (if v0_5_0 ≥ 0 then ((getI a0 v0_5_0).bind fun (x5_3 : GApiNode) => (if (IntKind.wrap .i64 (v0_5_0 + x5_3.Size)) ≥ a1 then (some v0_5_0) else g (.l0 a0 a1 (IntKind.wrap .i64 (v0_5_0 - 1))))) else g (.j1))
noncomputable def tree_Up_j1_b (g : (i : tree_Up_C) → Option (tree_Up_C_T i))  : Option Int :=
  (some (-1))
noncomputable def tree_Up_B (g : (i : tree_Up_C) → Option (tree_Up_C_T i)) : (i : tree_Up_C) → Option (tree_Up_C_T i)
  | .l0 a0 a1 v0_5_0 => tree_Up_l0_b g a0 a1 v0_5_0
  | .j1  => tree_Up_j1_b g 
theorem tree_Up_B_fin (i : tree_Up_C) : Fin1 (fun g => tree_Up_B g i) := by
  cases i with
  | l0 a0 a1 v0_5_0 => show Fin1 (fun g => tree_Up_l0_b g a0 a1 v0_5_0); unfold tree_Up_l0_b; repeat (first | refine fin_bind ?_ (fun _ => ?_) | refine fin_ite ?_ ?_ | exact fin_ask _ | exact fin_const _)
  | j1  => show Fin1 (fun g => tree_Up_j1_b g ); unfold tree_Up_j1_b; repeat (first | refine fin_bind ?_ (fun _ => ?_) | refine fin_ite ?_ ?_ | exact fin_ask _ | exact fin_const _)
noncomputable def tree_Up_l0 (a0 : (List GApiNode)) (a1 : Int) (v0_5_0 : Int) : Option Int := fixD tree_Up_B (.l0 a0 a1 v0_5_0)
noncomputable def tree_Up_j1  : Option Int := fixD tree_Up_B (.j1 )
theorem tree_Up_l0_eq (a0 : (List GApiNode)) (a1 : Int) (v0_5_0 : Int) : tree_Up_l0 a0 a1 v0_5_0 =
  (if v0_5_0 ≥ 0 then ((getI a0 v0_5_0).bind fun (x5_3 : GApiNode) => (if (IntKind.wrap .i64 (v0_5_0 + x5_3.Size)) ≥ a1 then (some v0_5_0) else tree_Up_l0 a0 a1 (IntKind.wrap .i64 (v0_5_0 - 1)))) else tree_Up_j1) := fix_eq tree_Up_B_fin _
theorem tree_Up_j1_eq  : tree_Up_j1  =
  (some (-1)) := fix_eq tree_Up_B_fin _
set_option maxRecDepth 100000 in
theorem tree_Up_l0_ok (n : Nat)  (a0 : (List GApiNode)) (a1 : Int) (v0_5_0 : Int) (r_ : Int) (Q' : Exit → St → Prop) (kr : ∀ (ns : List (Nat × Nat × Nat)) (s : LS) (x : Int), retX Try.prog ns [.tmp 4] s = some (aI .i64 x) → x = r_ → Q' .ret s.st) (k_x_0 : ∀ (q : Nat), q < n → ∀  (s' : LS), recN tree_Up_B q (.j1 ) = some r_ → Fits s'.st (LS.mk 35 [] []).st → Q' (.exit 0) s'.st) (h : recN tree_Up_B n (.l0 a0 a1 v0_5_0) = some r_) : W Try.prog (subC (bodyC Try.prog 19) [1, 1, 0, 1, 0]) (LS.mk 35 [(0, .t (.sl 6 (a0.map c_GApiNode))), (1, aI .i64 a1), (5, aI .i64 v0_5_0)] []).st Q' := by
  refine W_fix (σ := Int) (fun m x_ => m ≤ n ∧ recN tree_Up_B m (.l0 a0 a1 x_) = some r_) (fun x_ => LS.mk 35 [(0, .t (.sl 6 (a0.map c_GApiNode))), (1, aI .i64 a1), (5, aI .i64 x_)] []) (fun x hx => by cases hx.2) (fun _ _ => rfl) ?_ n (v0_5_0) ⟨Nat.le_refl _, h⟩
  clear h
  rintro m v0_5_0 ⟨hlt, h⟩
  replace h : tree_Up_l0_b (recN tree_Up_B m) a0 a1 v0_5_0 = some r_ := h
  unfold tree_Up_l0_b at h
  refine W_seq ?_
  refine W_seq ?_
  refine W_x (s' := LS.mk 35 [(0, .t (.sl 6 (a0.map c_GApiNode))), (1, aI .i64 a1), (5, aI .i64 v0_5_0), (22, aB (decide (v0_5_0 ≥ 0)))] []) mixed [(none, [], .no), (none, [], .no)] ⟨[0, 1, 5, 22], [], [], [], [], [], []⟩ [] (by kernel_rfl) trivial ?_
  refine W_cond (decide (v0_5_0 ≥ 0)) (by kernel_rfl) (fun hb1001 => ?_) (fun hb1001 => ?_)
  · have hx1002 := hb1001
    have h := if_t h hx1002
    refine W_skip ?_
    refine W_seq ?_
    refine W_block ?_
    refine W_seq ?_
    obtain ⟨x5_3, hx5_3, h⟩ := bind_ok h
    refine W_x (s' := LS.mk 35 [(0, .t (.sl 6 (a0.map c_GApiNode))), (1, aI .i64 a1), (5, aI .i64 v0_5_0), (33, aB (decide ((IntKind.wrap .i64 (v0_5_0 + x5_3.Size)) ≥ a1)))] []) mixed [(none, [], .no), (none, [], .no), (none, [], .no), (none, [], .ix (Int.toNat v0_5_0) (c_GApiNode x5_3)), (none, [], .no), (none, [], .no), (none, [], .no), (none, [], .no), (none, [], .no)] ⟨[0, 1, 5, 33], [], [], [], [], [], []⟩ [IxOb (a0.map c_GApiNode) v0_5_0 (Int.toNat v0_5_0) (c_GApiNode x5_3)] (by kernel_rfl) ⟨ix_ob hx5_3, trivial⟩ ?_
    refine W_cond (decide ((IntKind.wrap .i64 (v0_5_0 + x5_3.Size)) ≥ a1)) (by kernel_rfl) (fun hb1003 => ?_) (fun hb1003 => ?_)
    · have hx1004 := hb1003
      have h := if_t h hx1004
      refine W_seq ?_
      refine W_x (s' := LS.mk 35 [(4, aI .i64 v0_5_0)] []) mixed [(none, [], .no), (none, [], .no)] ⟨[4], [], [], [], [], [], []⟩ [] (by kernel_rfl) trivial ?_
      refine W_ret ?_
      exact kr [] _ _ (by kernel_rfl) (Option.some.inj h)
    · have hx1004 := hb1003
      have h := if_f h hx1004
      refine W_skip ?_
      refine W_x (s' := LS.mk 35 [(0, .t (.sl 6 (a0.map c_GApiNode))), (1, aI .i64 a1), (5, aI .i64 (IntKind.wrap .i64 (v0_5_0 - 1)))] []) mixed [(none, [], .no), (none, [], .no), (none, [], .no)] ⟨[0, 1, 5], [], [], [], [], [], []⟩ [] (by kernel_rfl) trivial ?_
      exact ⟨m, ((IntKind.wrap .i64 (v0_5_0 - 1))), Nat.le_refl _, ⟨Nat.le_of_lt hlt, h⟩, convX_fits (v := ⟨[0, 1, 5], [], [], [], [], [], []⟩) (s' := LS.mk 35 [(0, .t (.sl 6 (a0.map c_GApiNode))), (1, aI .i64 a1), (5, aI .i64 (IntKind.wrap .i64 (v0_5_0 - 1)))] []) (by kernel_rfl)⟩
  · have hx1002 := hb1001
    have h := if_f h hx1002
    refine W_exit ?_
    exact k_x_0 m hlt  _ h (convX_fits (v := ⟨[], [], [], [], [], [], []⟩) (s' := LS.mk 35 [] []) (by kernel_rfl))
set_option maxRecDepth 100000 in
theorem tree_Up_j1_ok (n : Nat)   (r_ : Int) (Q' : Exit → St → Prop) (kr : ∀ (ns : List (Nat × Nat × Nat)) (s : LS) (x : Int), retX Try.prog ns [.tmp 4] s = some (aI .i64 x) → x = r_ → Q' .ret s.st)  (h : recN tree_Up_B n (.j1 ) = some r_) : W Try.prog (subC (bodyC Try.prog 19) [1, 1, 1]) (LS.mk 35 [] []).st Q' := by
  cases n with
  | zero => cases h
  | succ m =>
  have hlt : m < m + 1 := Nat.lt_succ_self m
  replace h : tree_Up_j1_b (recN tree_Up_B m)  = some r_ := h
  unfold tree_Up_j1_b at h
  refine W_seq ?_
  refine W_x (s' := LS.mk 35 [(4, aI .i64 (-1))] []) mixed [(none, [], .no)] ⟨[4], [], [], [], [], [], []⟩ [] (by kernel_rfl) trivial ?_
  refine W_ret ?_
  exact kr [] _ _ (by kernel_rfl) (Option.some.inj h)
noncomputable def tree_Up (a0 : (List GApiNode)) (a1 : Int) : Option Int :=
  (if a1 < 1 then (some (-1)) else (if a1 ≥ (a0.length : Int) then (some (-1)) else ((tree_Right a0).bind fun (r1_10 : Bool) => (if r1_10 = true then tree_Up_l0 a0 a1 (IntKind.wrap .i64 (a1 - 1)) else (some (-1))))))
set_option maxRecDepth 100000 in
theorem tree_Up_ok {a0 : (List GApiNode)} {a1 : Int} {r_ : Int} (h : tree_Up a0 a1 = some r_) : R_tree_Up a0 a1 r_ := by
  unfold tree_Up at h
  refine fn_pureX (fn := Try.f19) (by kernel_rfl) (c := subC (bodyC Try.prog 19) []) (by kernel_rfl) (by kernel_rfl) (Nat.le_of_ble_eq_true (by kernel_rfl)) ?_
  generalize hQ' : retQ Try.prog Try.f19 (aI .i64 r_) = Q'
  have kr : ∀ (ns : List (Nat × Nat × Nat)) (s : LS) (x : Int), retX Try.prog ns [.tmp 4] s = some (aI .i64 x) → x = r_ → Q' .ret s.st := by subst hQ'; intro ns s x hx hq; subst hq; exact ret_ok (fn := Try.f19) ns hx
  change W Try.prog _ (LS.mk 35 [(0, .t (.sl 6 (a0.map c_GApiNode))), (1, aI .i64 a1)] []).st Q'
  refine W_seq ?_
  refine W_x (s' := LS.mk 35 [(0, .t (.sl 6 (a0.map c_GApiNode))), (1, aI .i64 a1)] []) mixed [(none, [], .no)] ⟨[0, 1], [], [], [], [], [], []⟩ [] (by kernel_rfl) trivial ?_
  refine W_seq ?_
  refine W_seq ?_
  refine (Bool.eq_false_or_eq_true (decide (a1 < 1))).elim (fun hb1 => ?_) (fun hb1 => ?_)
  · have hx2 := hb1
    have h := if_t h hx2
    refine W_x (s' := LS.mk 35 [(0, .t (.sl 6 (a0.map c_GApiNode))), (1, aI .i64 a1), (18, aB true)] []) mixed [(none, [], .no), (none, [], .no), (none, [], .no), (some true, [], .no), (some true, [], .no), (some true, [], .no), (some true, [], .no), (none, [], .dec true), (none, [], .no), (none, [], .no), (none, [], .no), (none, [], .no), (none, [], .no)] ⟨[0, 1, 18], [], [], [], [], [], []⟩ [(decide (a1 < 1)) = true, (decide (a1 < 1)) = true, (decide (a1 < 1)) = true, (decide (a1 < 1)) = true, (decide (a1 < 1)) = true] (by kernel_rfl) ⟨hx2, hx2, hx2, hx2, hx2, trivial⟩ ?_
    refine W_cond true (by kernel_rfl) (fun _ => ?_) (fun hb => nomatch ((rfl : true = true).symm.trans hb))
    refine W_seq ?_
    refine W_x (s' := LS.mk 35 [(4, aI .i64 (-1))] []) mixed [(none, [], .no)] ⟨[4], [], [], [], [], [], []⟩ [] (by kernel_rfl) trivial ?_
    refine W_ret ?_
    exact kr [] _ _ (by kernel_rfl) (Option.some.inj h)
  · have hx2 := hb1
    have h := if_f h hx2
    refine (Bool.eq_false_or_eq_true (decide (a1 ≥ (a0.length : Int)))).elim (fun hb3 => ?_) (fun hb3 => ?_)
    · have hx4 := hb3
      have h := if_t h hx4
      refine W_x (s' := LS.mk 35 [(0, .t (.sl 6 (a0.map c_GApiNode))), (1, aI .i64 a1), (18, aB true)] []) mixed [(none, [], .no), (none, [], .no), (none, [], .no), (some false, [], .no), (some false, [], .no), (some false, [], .len a0.length), (some false, [], .no), (none, [], .dec false), (none, [], .no), (some true, [], .no), (some true, [], .no), (some true, [], .no), (none, [], .dec true)] ⟨[0, 1, 18], [], [], [], [], [], []⟩ [(decide (a1 < 1)) = false, (decide (a1 < 1)) = false, (decide (a1 < 1)) = false, (a0.map c_GApiNode).length = a0.length, (decide (a1 < 1)) = false, (decide (a1 < 1)) = false, (decide (a1 ≥ (a0.length : Int))) = true, (decide (a1 ≥ (a0.length : Int))) = true, (decide (a1 ≥ (a0.length : Int))) = true, (decide (a1 ≥ (a0.length : Int))) = true] (by kernel_rfl) ⟨hx2, hx2, hx2, len_ob, hx2, hx2, hx4, hx4, hx4, hx4, trivial⟩ ?_
      refine W_cond true (by kernel_rfl) (fun _ => ?_) (fun hb => nomatch ((rfl : true = true).symm.trans hb))
      refine W_seq ?_
      refine W_x (s' := LS.mk 35 [(4, aI .i64 (-1))] []) mixed [(none, [], .no)] ⟨[4], [], [], [], [], [], []⟩ [] (by kernel_rfl) trivial ?_
      refine W_ret ?_
      exact kr [] _ _ (by kernel_rfl) (Option.some.inj h)
    · have hx4 := hb3
      have h := if_f h hx4
      obtain ⟨r1_10, hr1_10, h⟩ := bind_ok h
      have hr1_10 := tree_Right_ok hr1_10
      refine W_x (s' := LS.mk 35 [(0, .t (.sl 6 (a0.map c_GApiNode))), (1, aI .i64 a1), (18, aB (!r1_10))] []) mixed [(none, [], .no), (none, [], .no), (none, [], .no), (some false, [], .no), (some false, [], .no), (some false, [], .len a0.length), (some false, [], .no), (none, [], .dec false), (none, [], .no), (some false, [], .no), (some false, [], .call [] (aB r1_10)), (some false, [], .no), (none, [], .dec false)] ⟨[0, 1, 18], [], [], [], [], [], []⟩ [(decide (a1 < 1)) = false, (decide (a1 < 1)) = false, (decide (a1 < 1)) = false, (a0.map c_GApiNode).length = a0.length, (decide (a1 < 1)) = false, (decide (a1 < 1)) = false, (decide (a1 ≥ (a0.length : Int))) = false, (decide (a1 ≥ (a0.length : Int))) = false, R_tree_Right a0 r1_10, (decide (a1 ≥ (a0.length : Int))) = false, (decide (a1 ≥ (a0.length : Int))) = false] (by kernel_rfl) ⟨hx2, hx2, hx2, len_ob, hx2, hx2, hx4, hx4, hr1_10, hx4, hx4, trivial⟩ ?_
      refine W_cond (!r1_10) (by kernel_rfl) (fun hb5 => ?_) (fun hb5 => ?_)
      · have hx6 : r1_10 = false := (bnot_t hb5)
        have h := ib_f h hx6
        refine W_seq ?_
        refine W_x (s' := LS.mk 35 [(4, aI .i64 (-1))] []) mixed [(none, [], .no)] ⟨[4], [], [], [], [], [], []⟩ [] (by kernel_rfl) trivial ?_
        refine W_ret ?_
        exact kr [] _ _ (by kernel_rfl) (Option.some.inj h)
      · have hx6 : r1_10 = true := (bnot_f hb5)
        have h := ib_t h hx6
        refine W_skip ?_
        refine W_seq ?_
        refine W_seq ?_
        refine W_x (s' := LS.mk 35 [(0, .t (.sl 6 (a0.map c_GApiNode))), (1, aI .i64 a1), (5, aI .i64 (IntKind.wrap .i64 (a1 - 1)))] []) mixed [(none, [], .no), (none, [], .no), (none, [], .no)] ⟨[0, 1, 5], [], [], [], [], [], []⟩ [] (by kernel_rfl) trivial ?_
        refine W_block ?_
        obtain ⟨n, h⟩ := fix_rec h
        exact W_conv (s' := LS.mk 35 [(0, .t (.sl 6 (a0.map c_GApiNode))), (1, aI .i64 a1), (5, aI .i64 (IntKind.wrap .i64 (a1 - 1)))] []) ⟨[0, 1, 5], [], [], [], [], [], []⟩ (by kernel_rfl) (tree_Up_l0_ok n a0 a1 (IntKind.wrap .i64 (a1 - 1)) r_ _ kr (fun q1 hq1  s' h hf => W_pre hf (tree_Up_j1_ok q1 r_ _ kr h)) h)
def RI_hindcastref05_Kids (a0 : (List GApiNode)) (a1 : Int) (r : (List Int)) : Prop := FnIO Try.prog 20 [.t (.sl 6 (a0.map c_GApiNode)), aI .i64 a1] [] (.ref 800000) [(800000, .row 3 1 (r.map c_i64))]
def R_hindcastref05_Kids (a0 : (List GApiNode)) (a1 : Int) (r : (List Int)) : Prop := FnP Try.prog 20 [.t (.sl 6 (a0.map c_GApiNode)), aI .i64 a1] (.t (.sl 1 (r.map c_i64)))
inductive hindcastref05_Kids_C where
  | l0 (a0 : (List GApiNode)) (a1 : Int) (v0_6_0 : Int) (w0_1005 : (List Int))
  | j1 (w0_1005 : (List Int))
abbrev hindcastref05_Kids_C_T : hindcastref05_Kids_C → Type := fun _ => (List Int)
noncomputable def hindcastref05_Kids_l0_b (g : (i : hindcastref05_Kids_C) → Option (hindcastref05_Kids_C_T i)) (a0 : (List GApiNode)) (a1 : Int) (v0_6_0 : Int) (w0_1005 : (List Int)) : Option (List Int) :=
  ((getI a0 a1).bind fun (x3_5 : GApiNode) => (if v0_6_0 < (IntKind.wrap .i64 ((IntKind.wrap .i64 (a1 + 1)) + x3_5.Size)) then (if AppOb 8 (w0_1005.length + ([v0_6_0] : List Int).length) then ((getI a0 v0_6_0).bind fun (x5_4 : GApiNode) => g (.l0 a0 a1 (IntKind.wrap .i64 ((IntKind.wrap .i64 (v0_6_0 + 1)) + x5_4.Size)) (w0_1005 ++ ([v0_6_0] : List Int)))) else none) else g (.j1 w0_1005)))
noncomputable def hindcastref05_Kids_j1_b (g : (i : hindcastref05_Kids_C) → Option (hindcastref05_Kids_C_T i)) (w0_1005 : (List Int)) : Option (List Int) :=
  (some w0_1005)
noncomputable def hindcastref05_Kids_B (g : (i : hindcastref05_Kids_C) → Option (hindcastref05_Kids_C_T i)) : (i : hindcastref05_Kids_C) → Option (hindcastref05_Kids_C_T i)
  | .l0 a0 a1 v0_6_0 w0_1005 => hindcastref05_Kids_l0_b g a0 a1 v0_6_0 w0_1005
  | .j1 w0_1005 => hindcastref05_Kids_j1_b g w0_1005
theorem hindcastref05_Kids_B_fin (i : hindcastref05_Kids_C) : Fin1 (fun g => hindcastref05_Kids_B g i) := by
  cases i with
  | l0 a0 a1 v0_6_0 w0_1005 => show Fin1 (fun g => hindcastref05_Kids_l0_b g a0 a1 v0_6_0 w0_1005); unfold hindcastref05_Kids_l0_b; repeat (first | refine fin_bind ?_ (fun _ => ?_) | refine fin_ite ?_ ?_ | exact fin_ask _ | exact fin_const _)
  | j1 w0_1005 => show Fin1 (fun g => hindcastref05_Kids_j1_b g w0_1005); unfold hindcastref05_Kids_j1_b; repeat (first | refine fin_bind ?_ (fun _ => ?_) | refine fin_ite ?_ ?_ | exact fin_ask _ | exact fin_const _)
noncomputable def hindcastref05_Kids_l0 (a0 : (List GApiNode)) (a1 : Int) (v0_6_0 : Int) (w0_1005 : (List Int)) : Option (List Int) := fixD hindcastref05_Kids_B (.l0 a0 a1 v0_6_0 w0_1005)
noncomputable def hindcastref05_Kids_j1 (w0_1005 : (List Int)) : Option (List Int) := fixD hindcastref05_Kids_B (.j1 w0_1005)
theorem hindcastref05_Kids_l0_eq (a0 : (List GApiNode)) (a1 : Int) (v0_6_0 : Int) (w0_1005 : (List Int)) : hindcastref05_Kids_l0 a0 a1 v0_6_0 w0_1005 =
  ((getI a0 a1).bind fun (x3_5 : GApiNode) => (if v0_6_0 < (IntKind.wrap .i64 ((IntKind.wrap .i64 (a1 + 1)) + x3_5.Size)) then (if AppOb 8 (w0_1005.length + ([v0_6_0] : List Int).length) then ((getI a0 v0_6_0).bind fun (x5_4 : GApiNode) => hindcastref05_Kids_l0 a0 a1 (IntKind.wrap .i64 ((IntKind.wrap .i64 (v0_6_0 + 1)) + x5_4.Size)) (w0_1005 ++ ([v0_6_0] : List Int))) else none) else hindcastref05_Kids_j1 w0_1005)) := fix_eq hindcastref05_Kids_B_fin _
theorem hindcastref05_Kids_j1_eq (w0_1005 : (List Int)) : hindcastref05_Kids_j1 w0_1005 =
  (some w0_1005) := fix_eq hindcastref05_Kids_B_fin _
set_option maxRecDepth 100000 in
theorem hindcastref05_Kids_l0_ok (n : Nat)  (a0 : (List GApiNode)) (a1 : Int) (v0_6_0 : Int) (w0_1005 : (List Int)) (r_ : (List Int)) (Q' : Exit → St → Prop) (kr : ∀ (v : CV) (s : LS) (x : (List Int)), retIOX Try.prog v [.tmp 4] s = some ((.ref 800000), [(800000, .row 3 1 (x.map c_i64))]) → x = r_ → Q' .ret s.st) (k_x_0 : ∀ (q : Nat), q < n → ∀ (w0_1005 : (List Int)) (s' : LS), recN hindcastref05_Kids_B q (.j1 w0_1005) = some r_ → Fits s'.st (LS.mk 33 [(5, .ref 1005)] [(1005, some (.row 3 1 (w0_1005.map c_i64)))]).st → Q' (.exit 0) s'.st) (h : recN hindcastref05_Kids_B n (.l0 a0 a1 v0_6_0 w0_1005) = some r_) : W Try.prog (subC (bodyC Try.prog 20) [1, 1, 0, 1, 0]) (LS.mk 33 [(0, .t (.sl 6 (a0.map c_GApiNode))), (1, aI .i64 a1), (5, .ref 1005), (6, aI .i64 v0_6_0)] [(1005, some (.row 3 1 (w0_1005.map c_i64)))]).st Q' := by
  refine W_fix (σ := Int × (List Int)) (fun m x_ => m ≤ n ∧ recN hindcastref05_Kids_B m (.l0 a0 a1 x_.1 x_.2) = some r_) (fun x_ => LS.mk 33 [(0, .t (.sl 6 (a0.map c_GApiNode))), (1, aI .i64 a1), (5, .ref 1005), (6, aI .i64 x_.1)] [(1005, some (.row 3 1 (x_.2.map c_i64)))]) (fun x hx => by cases hx.2) (fun _ _ => rfl) ?_ n (v0_6_0, w0_1005) ⟨Nat.le_refl _, h⟩
  clear h
  rintro m ⟨v0_6_0, w0_1005⟩ ⟨hlt, h⟩
  replace h : hindcastref05_Kids_l0_b (recN hindcastref05_Kids_B m) a0 a1 v0_6_0 w0_1005 = some r_ := h
  unfold hindcastref05_Kids_l0_b at h
  refine W_seq ?_
  refine W_seq ?_
  obtain ⟨x3_5, hx3_5, h⟩ := bind_ok h
  refine W_x (s' := LS.mk 33 [(0, .t (.sl 6 (a0.map c_GApiNode))), (1, aI .i64 a1), (5, .ref 1005), (6, aI .i64 v0_6_0), (19, aB (decide (v0_6_0 < (IntKind.wrap .i64 ((IntKind.wrap .i64 (a1 + 1)) + x3_5.Size)))))] [(1005, some (.row 3 1 (w0_1005.map c_i64)))]) mixed [(none, [], .no), (none, [], .no), (none, [], .no), (none, [], .no), (none, [], .no), (none, [], .ix (Int.toNat a1) (c_GApiNode x3_5)), (none, [], .no), (none, [], .no), (none, [], .no), (none, [], .no)] ⟨[0, 1, 5, 6, 19], [], [], [], [(1005, 1005)], [], []⟩ [IxOb (a0.map c_GApiNode) a1 (Int.toNat a1) (c_GApiNode x3_5)] (by kernel_rfl) ⟨ix_ob hx3_5, trivial⟩ ?_
  refine W_cond (decide (v0_6_0 < (IntKind.wrap .i64 ((IntKind.wrap .i64 (a1 + 1)) + x3_5.Size)))) (by kernel_rfl) (fun hb1001 => ?_) (fun hb1001 => ?_)
  · have hx1002 := hb1001
    have h := if_t h hx1002
    refine W_skip ?_
    refine W_seq ?_
    refine W_block ?_
    obtain ⟨hd1003, h⟩ := ite_ok h
    refine W_x (s' := LS.mk 33 [(0, .t (.sl 6 (a0.map c_GApiNode))), (1, aI .i64 a1), (5, .ref 1005), (6, aI .i64 v0_6_0)] [(1005, some (.row 3 1 ((w0_1005 ++ ([v0_6_0] : List Int)).map c_i64)))]) mixed [(none, [], .no), (none, [], .no), (none, [], .no), (none, [], .rows ((w0_1005 ++ ([v0_6_0] : List Int)).map c_i64)), (none, [], .no)] ⟨[0, 1, 5, 6], [], [], [], [(31, 1005)], [], []⟩ [AppOb 8 ((w0_1005.map c_i64).length + (([v0_6_0] : List Int).map c_i64).length), RowOb (w0_1005.map c_i64 ++ ([v0_6_0] : List Int).map c_i64) ((w0_1005 ++ ([v0_6_0] : List Int)).map c_i64)] (by kernel_rfl) ⟨ap_ob hd1003, app_ob, trivial⟩ ?_
    obtain ⟨x5_4, hx5_4, h⟩ := bind_ok h
    refine W_x (s' := LS.mk 33 [(0, .t (.sl 6 (a0.map c_GApiNode))), (1, aI .i64 a1), (5, .ref 1005), (6, aI .i64 (IntKind.wrap .i64 ((IntKind.wrap .i64 (v0_6_0 + 1)) + x5_4.Size)))] [(1005, some (.row 3 1 ((w0_1005 ++ ([v0_6_0] : List Int)).map c_i64)))]) mixed [(none, [], .no), (none, [], .no), (none, [], .no), (none, [], .no), (none, [], .ix (Int.toNat v0_6_0) (c_GApiNode x5_4)), (none, [], .no), (none, [], .no), (none, [], .no), (none, [], .no)] ⟨[0, 1, 5, 6], [], [], [], [(1005, 1005)], [], []⟩ [IxOb (a0.map c_GApiNode) v0_6_0 (Int.toNat v0_6_0) (c_GApiNode x5_4)] (by kernel_rfl) ⟨ix_ob hx5_4, trivial⟩ ?_
    exact ⟨m, ((IntKind.wrap .i64 ((IntKind.wrap .i64 (v0_6_0 + 1)) + x5_4.Size)), (w0_1005 ++ ([v0_6_0] : List Int))), Nat.le_refl _, ⟨Nat.le_of_lt hlt, h⟩, convX_fits (v := ⟨[0, 1, 5, 6], [], [], [], [(1005, 1005)], [], []⟩) (s' := LS.mk 33 [(0, .t (.sl 6 (a0.map c_GApiNode))), (1, aI .i64 a1), (5, .ref 1005), (6, aI .i64 (IntKind.wrap .i64 ((IntKind.wrap .i64 (v0_6_0 + 1)) + x5_4.Size)))] [(1005, some (.row 3 1 ((w0_1005 ++ ([v0_6_0] : List Int)).map c_i64)))]) (by kernel_rfl)⟩
  · have hx1002 := hb1001
    have h := if_f h hx1002
    refine W_exit ?_
    exact k_x_0 m hlt w0_1005 _ h (convX_fits (v := ⟨[5], [], [], [], [(1005, 1005)], [], []⟩) (s' := LS.mk 33 [(5, .ref 1005)] [(1005, some (.row 3 1 (w0_1005.map c_i64)))]) (by kernel_rfl))
set_option maxRecDepth 100000 in
theorem hindcastref05_Kids_j1_ok (n : Nat)  (w0_1005 : (List Int)) (r_ : (List Int)) (Q' : Exit → St → Prop) (kr : ∀ (v : CV) (s : LS) (x : (List Int)), retIOX Try.prog v [.tmp 4] s = some ((.ref 800000), [(800000, .row 3 1 (x.map c_i64))]) → x = r_ → Q' .ret s.st)  (h : recN hindcastref05_Kids_B n (.j1 w0_1005) = some r_) : W Try.prog (subC (bodyC Try.prog 20) [1, 1, 1]) (LS.mk 33 [(5, .ref 1005)] [(1005, some (.row 3 1 (w0_1005.map c_i64)))]).st Q' := by
  cases n with
  | zero => cases h
  | succ m =>
  have hlt : m < m + 1 := Nat.lt_succ_self m
  replace h : hindcastref05_Kids_j1_b (recN hindcastref05_Kids_B m) w0_1005 = some r_ := h
  unfold hindcastref05_Kids_j1_b at h
  refine W_seq ?_
  refine W_x (s' := LS.mk 33 [(4, .ref 1004)] [(1004, some (.row 3 1 (w0_1005.map c_i64)))]) mixed [(none, [], .no), (none, [], .no)] ⟨[4], [], [], [], [(1005, 1004)], [], []⟩ [] (by kernel_rfl) trivial ?_
  refine W_ret ?_
  exact kr ⟨[], [], [], [], [(1004, 800000)], [], []⟩ _ w0_1005 (by kernel_rfl) (Option.some.inj h)
noncomputable def hindcastref05_Kids (a0 : (List GApiNode)) (a1 : Int) : Option (List Int) :=
  hindcastref05_Kids_l0 a0 a1 (IntKind.wrap .i64 (a1 + 1)) ([] : List Int)
set_option maxRecDepth 100000 in
theorem hindcastref05_Kids_ok {a0 : (List GApiNode)} {a1 : Int} {r_ : (List Int)} (h : hindcastref05_Kids a0 a1 = some r_) : RI_hindcastref05_Kids a0 a1 r_ := by
  unfold hindcastref05_Kids at h
  refine fn_ioX (fn := Try.f20) (by kernel_rfl) (c := subC (bodyC Try.prog 20) []) (by kernel_rfl) (by kernel_rfl) (Nat.le_of_ble_eq_true (by kernel_rfl)) (Nat.le_of_ble_eq_true (by kernel_rfl)) ?_
  generalize hQ' : retIO Try.prog Try.f20 (.ref 800000) [(800000, .row 3 1 (r_.map c_i64))] = Q'
  have kr : ∀ (v : CV) (s : LS) (x : (List Int)), retIOX Try.prog v [.tmp 4] s = some ((.ref 800000), [(800000, .row 3 1 (x.map c_i64))]) → x = r_ → Q' .ret s.st := by subst hQ'; intro ns s x hx hq; subst hq; exact retIO_ret (fn := Try.f20) ns hx
  change W Try.prog _ (LS.mk 33 [(0, .t (.sl 6 (a0.map c_GApiNode))), (1, aI .i64 a1)] []).st Q'
  refine W_seq ?_
  refine W_x (s' := LS.mk 33 [(0, .t (.sl 6 (a0.map c_GApiNode))), (1, aI .i64 a1)] []) mixed [(none, [], .no)] ⟨[0, 1], [], [], [], [], [], []⟩ [] (by kernel_rfl) trivial ?_
  refine W_seq ?_
  refine W_x (s' := LS.mk 33 [(0, .t (.sl 6 (a0.map c_GApiNode))), (1, aI .i64 a1), (5, .ref 1005)] [(1005, some (.row 3 1 (([] : List Int).map c_i64)))]) mixed [(none, [], .no), (none, [], .no)] ⟨[0, 1, 5], [], [], [], [(7, 1005)], [], []⟩ [] (by kernel_rfl) trivial ?_
  refine W_seq ?_
  refine W_seq ?_
  refine W_x (s' := LS.mk 33 [(0, .t (.sl 6 (a0.map c_GApiNode))), (1, aI .i64 a1), (5, .ref 1005), (6, aI .i64 (IntKind.wrap .i64 (a1 + 1)))] [(1005, some (.row 3 1 (([] : List Int).map c_i64)))]) mixed [(none, [], .no), (none, [], .no), (none, [], .no)] ⟨[0, 1, 5, 6], [], [], [], [(1005, 1005)], [], []⟩ [] (by kernel_rfl) trivial ?_
  refine W_block ?_
  obtain ⟨n, h⟩ := fix_rec h
  exact W_conv (s' := LS.mk 33 [(0, .t (.sl 6 (a0.map c_GApiNode))), (1, aI .i64 a1), (5, .ref 1005), (6, aI .i64 (IntKind.wrap .i64 (a1 + 1)))] [(1005, some (.row 3 1 (([] : List Int).map c_i64)))]) ⟨[0, 1, 5, 6], [], [], [], [(1005, 1005)], [], []⟩ (by kernel_rfl) (hindcastref05_Kids_l0_ok n a0 a1 (IntKind.wrap .i64 (a1 + 1)) ([] : List Int) r_ _ kr (fun q1 hq1 w0_1005 s' h hf => W_pre hf (hindcastref05_Kids_j1_ok q1 w0_1005 r_ _ kr h)) h)
theorem hindcastref05_Kids_okp {a0 : (List GApiNode)} {a1 : Int} {r_ : (List Int)} (h : hindcastref05_Kids a0 a1 = some r_) : R_hindcastref05_Kids a0 a1 r_ := fnio_pure (hindcastref05_Kids_ok h) (by kernel_rfl) (by kernel_rfl)
def R_hindcastref05_Up (a0 : (List GApiNode)) (a1 : Int) (r : Int) : Prop := FnP Try.prog 21 [.t (.sl 6 (a0.map c_GApiNode)), aI .i64 a1] (aI .i64 r)
inductive hindcastref05_Up_C where
  | l0 (a0 : (List GApiNode)) (a1 : Int) (v0_10_0 : Int)
  | l1 (a0 : (List GApiNode)) (a1 : Int) (v1_5_0 : Int) (v1_10_0 : Int) (r4_2 : (List Int)) (v1_18_0 : Int)
  | j2 
  | j3 (a0 : (List GApiNode)) (a1 : Int) (v3_10_0 : Int)
abbrev hindcastref05_Up_C_T : hindcastref05_Up_C → Type := fun _ => Int
noncomputable def hindcastref05_Up_l0_b (g : (i : hindcastref05_Up_C) → Option (hindcastref05_Up_C_T i)) (a0 : (List GApiNode)) (a1 : Int) (v0_10_0 : Int) : Option Int :=
  (if v0_10_0 < (a0.length : Int) then ((hindcastref05_Kids a0 v0_10_0).bind fun (r4_2 : (List Int)) => g (.l1 a0 a1 v0_10_0 v0_10_0 r4_2 0)) else g (.j2))
noncomputable def hindcastref05_Up_l1_b (g : (i : hindcastref05_Up_C) → Option (hindcastref05_Up_C_T i)) (a0 : (List GApiNode)) (a1 : Int) (v1_5_0 : Int) (v1_10_0 : Int) (r4_2 : (List Int)) (v1_18_0 : Int) : Option Int :=
  (if v1_18_0 < (r4_2.length : Int) then ((getI r4_2 v1_18_0).bind fun (x8_2 : Int) => (if x8_2 = a1 then (some v1_5_0) else g (.l1 a0 a1 v1_5_0 v1_10_0 r4_2 (IntKind.wrap .i64 (v1_18_0 + 1))))) else g (.j3 a0 a1 v1_10_0))
noncomputable def hindcastref05_Up_j2_b (g : (i : hindcastref05_Up_C) → Option (hindcastref05_Up_C_T i))  : Option Int :=
  (some (-1))
noncomputable def hindcastref05_Up_j3_b (g : (i : hindcastref05_Up_C) → Option (hindcastref05_Up_C_T i)) (a0 : (List GApiNode)) (a1 : Int) (v3_10_0 : Int) : Option Int :=
  g (.l0 a0 a1 (IntKind.wrap .i64 (v3_10_0 + 1)))
noncomputable def hindcastref05_Up_B (g : (i : hindcastref05_Up_C) → Option (hindcastref05_Up_C_T i)) : (i : hindcastref05_Up_C) → Option (hindcastref05_Up_C_T i)
  | .l0 a0 a1 v0_10_0 => hindcastref05_Up_l0_b g a0 a1 v0_10_0
  | .l1 a0 a1 v1_5_0 v1_10_0 r4_2 v1_18_0 => hindcastref05_Up_l1_b g a0 a1 v1_5_0 v1_10_0 r4_2 v1_18_0
  | .j2  => hindcastref05_Up_j2_b g 
  | .j3 a0 a1 v3_10_0 => hindcastref05_Up_j3_b g a0 a1 v3_10_0
theorem hindcastref05_Up_B_fin (i : hindcastref05_Up_C) : Fin1 (fun g => hindcastref05_Up_B g i) := by
  cases i with
  | l0 a0 a1 v0_10_0 => show Fin1 (fun g => hindcastref05_Up_l0_b g a0 a1 v0_10_0); unfold hindcastref05_Up_l0_b; repeat (first | refine fin_bind ?_ (fun _ => ?_) | refine fin_ite ?_ ?_ | exact fin_ask _ | exact fin_const _)
  | l1 a0 a1 v1_5_0 v1_10_0 r4_2 v1_18_0 => show Fin1 (fun g => hindcastref05_Up_l1_b g a0 a1 v1_5_0 v1_10_0 r4_2 v1_18_0); unfold hindcastref05_Up_l1_b; repeat (first | refine fin_bind ?_ (fun _ => ?_) | refine fin_ite ?_ ?_ | exact fin_ask _ | exact fin_const _)
  | j2  => show Fin1 (fun g => hindcastref05_Up_j2_b g ); unfold hindcastref05_Up_j2_b; repeat (first | refine fin_bind ?_ (fun _ => ?_) | refine fin_ite ?_ ?_ | exact fin_ask _ | exact fin_const _)
  | j3 a0 a1 v3_10_0 => show Fin1 (fun g => hindcastref05_Up_j3_b g a0 a1 v3_10_0); unfold hindcastref05_Up_j3_b; repeat (first | refine fin_bind ?_ (fun _ => ?_) | refine fin_ite ?_ ?_ | exact fin_ask _ | exact fin_const _)
noncomputable def hindcastref05_Up_l0 (a0 : (List GApiNode)) (a1 : Int) (v0_10_0 : Int) : Option Int := fixD hindcastref05_Up_B (.l0 a0 a1 v0_10_0)
noncomputable def hindcastref05_Up_l1 (a0 : (List GApiNode)) (a1 : Int) (v1_5_0 : Int) (v1_10_0 : Int) (r4_2 : (List Int)) (v1_18_0 : Int) : Option Int := fixD hindcastref05_Up_B (.l1 a0 a1 v1_5_0 v1_10_0 r4_2 v1_18_0)
noncomputable def hindcastref05_Up_j2  : Option Int := fixD hindcastref05_Up_B (.j2 )
noncomputable def hindcastref05_Up_j3 (a0 : (List GApiNode)) (a1 : Int) (v3_10_0 : Int) : Option Int := fixD hindcastref05_Up_B (.j3 a0 a1 v3_10_0)
theorem hindcastref05_Up_l0_eq (a0 : (List GApiNode)) (a1 : Int) (v0_10_0 : Int) : hindcastref05_Up_l0 a0 a1 v0_10_0 =
  (if v0_10_0 < (a0.length : Int) then ((hindcastref05_Kids a0 v0_10_0).bind fun (r4_2 : (List Int)) => hindcastref05_Up_l1 a0 a1 v0_10_0 v0_10_0 r4_2 0) else hindcastref05_Up_j2) := fix_eq hindcastref05_Up_B_fin _
theorem hindcastref05_Up_l1_eq (a0 : (List GApiNode)) (a1 : Int) (v1_5_0 : Int) (v1_10_0 : Int) (r4_2 : (List Int)) (v1_18_0 : Int) : hindcastref05_Up_l1 a0 a1 v1_5_0 v1_10_0 r4_2 v1_18_0 =
  (if v1_18_0 < (r4_2.length : Int) then ((getI r4_2 v1_18_0).bind fun (x8_2 : Int) => (if x8_2 = a1 then (some v1_5_0) else hindcastref05_Up_l1 a0 a1 v1_5_0 v1_10_0 r4_2 (IntKind.wrap .i64 (v1_18_0 + 1)))) else hindcastref05_Up_j3 a0 a1 v1_10_0) := fix_eq hindcastref05_Up_B_fin _
theorem hindcastref05_Up_j2_eq  : hindcastref05_Up_j2  =
  (some (-1)) := fix_eq hindcastref05_Up_B_fin _
theorem hindcastref05_Up_j3_eq (a0 : (List GApiNode)) (a1 : Int) (v3_10_0 : Int) : hindcastref05_Up_j3 a0 a1 v3_10_0 =
  hindcastref05_Up_l0 a0 a1 (IntKind.wrap .i64 (v3_10_0 + 1)) := fix_eq hindcastref05_Up_B_fin _
set_option maxRecDepth 100000 in
theorem hindcastref05_Up_l1_ok (n : Nat)  (a0 : (List GApiNode)) (a1 : Int) (v1_5_0 : Int) (v1_10_0 : Int) (r4_2 : (List Int)) (v1_18_0 : Int) (r_ : Int) (Q' : Exit → St → Prop) (kr : ∀ (ns : List (Nat × Nat × Nat)) (s : LS) (x : Int), retX Try.prog ns [.tmp 4] s = some (aI .i64 x) → x = r_ → Q' .ret s.st) (k_x_2 : ∀ (q : Nat), q < n → ∀ (v3_10_0 : Int) (s' : LS), recN hindcastref05_Up_B q (.j3 a0 a1 v3_10_0) = some r_ → Fits s'.st (LS.mk 30 [(0, .t (.sl 6 (a0.map c_GApiNode))), (1, aI .i64 a1), (9, aI .i64 (a0.length : Int)), (10, aI .i64 v3_10_0)] []).st → Q' (.exit 2) s'.st) (h : recN hindcastref05_Up_B n (.l1 a0 a1 v1_5_0 v1_10_0 r4_2 v1_18_0) = some r_) : W Try.prog (subC (bodyC Try.prog 21) [1, 0, 1, 0, 0, 1, 1, 0, 0, 1, 1, 1, 0]) (LS.mk 30 [(0, .t (.sl 6 (a0.map c_GApiNode))), (1, aI .i64 a1), (5, aI .i64 v1_5_0), (6, .ref 1006), (9, aI .i64 (a0.length : Int)), (10, aI .i64 v1_10_0), (17, aI .i64 (r4_2.length : Int)), (18, aI .i64 v1_18_0)] [(1006, some (.row 3 1 (r4_2.map c_i64)))]).st Q' := by
  refine W_fix (σ := Int × Int × Int) (fun m x_ => m ≤ n ∧ recN hindcastref05_Up_B m (.l1 a0 a1 x_.1 x_.2.1 r4_2 x_.2.2) = some r_) (fun x_ => LS.mk 30 [(0, .t (.sl 6 (a0.map c_GApiNode))), (1, aI .i64 a1), (5, aI .i64 x_.1), (6, .ref 1006), (9, aI .i64 (a0.length : Int)), (10, aI .i64 x_.2.1), (17, aI .i64 (r4_2.length : Int)), (18, aI .i64 x_.2.2)] [(1006, some (.row 3 1 (r4_2.map c_i64)))]) (fun x hx => by cases hx.2) (fun _ _ => rfl) ?_ n (v1_5_0, v1_10_0, v1_18_0) ⟨Nat.le_refl _, h⟩
  clear h
  rintro m ⟨v1_5_0, v1_10_0, v1_18_0⟩ ⟨hlt, h⟩
  replace h : hindcastref05_Up_l1_b (recN hindcastref05_Up_B m) a0 a1 v1_5_0 v1_10_0 r4_2 v1_18_0 = some r_ := h
  unfold hindcastref05_Up_l1_b at h
  refine W_seq ?_
  refine W_x (s' := LS.mk 30 [(0, .t (.sl 6 (a0.map c_GApiNode))), (1, aI .i64 a1), (5, aI .i64 v1_5_0), (6, .ref 1006), (9, aI .i64 (a0.length : Int)), (10, aI .i64 v1_10_0), (17, aI .i64 (r4_2.length : Int)), (18, aI .i64 v1_18_0), (19, aB (decide (v1_18_0 < (r4_2.length : Int))))] [(1006, some (.row 3 1 (r4_2.map c_i64)))]) mixed [(none, [], .no)] ⟨[0, 1, 5, 6, 9, 10, 17, 18, 19], [], [], [], [(1006, 1006)], [], []⟩ [] (by kernel_rfl) trivial ?_
  refine W_seq ?_
  refine W_cond (decide (v1_18_0 < (r4_2.length : Int))) (by kernel_rfl) (fun hb2001 => ?_) (fun hb2001 => ?_)
  · have hx2002 := hb2001
    have h := if_t h hx2002
    refine W_skip ?_
    refine W_seq ?_
    refine W_block ?_
    refine W_seq ?_
    refine W_x (s' := LS.mk 30 [(0, .t (.sl 6 (a0.map c_GApiNode))), (1, aI .i64 a1), (5, aI .i64 v1_5_0), (6, .ref 1006), (7, aI .i64 v1_18_0), (9, aI .i64 (a0.length : Int)), (10, aI .i64 v1_10_0), (17, aI .i64 (r4_2.length : Int)), (18, aI .i64 v1_18_0)] [(1006, some (.row 3 1 (r4_2.map c_i64)))]) mixed [(none, [], .no), (none, [], .no)] ⟨[0, 1, 5, 6, 7, 9, 10, 17, 18], [], [], [], [(1006, 1006)], [], []⟩ [] (by kernel_rfl) trivial ?_
    refine W_seq ?_
    obtain ⟨x8_2, hx8_2, h⟩ := bind_ok h
    refine W_x (s' := LS.mk 30 [(0, .t (.sl 6 (a0.map c_GApiNode))), (1, aI .i64 a1), (5, aI .i64 v1_5_0), (6, .ref 1006), (9, aI .i64 (a0.length : Int)), (10, aI .i64 v1_10_0), (17, aI .i64 (r4_2.length : Int)), (18, aI .i64 v1_18_0), (26, aB (decide (x8_2 = a1)))] [(1006, some (.row 3 1 (r4_2.map c_i64)))]) mixed [(none, [], .no), (none, [], .no), (none, [], .ix (Int.toNat v1_18_0) (c_i64 x8_2)), (none, [], .ix (Int.toNat v1_18_0) (c_i64 x8_2)), (none, [], .no), (none, [], .no)] ⟨[0, 1, 5, 6, 9, 10, 17, 18, 26], [], [], [], [(1006, 1006)], [], []⟩ [IxOb (r4_2.map c_i64) v1_18_0 (Int.toNat v1_18_0) (c_i64 x8_2), (r4_2.map c_i64)[(Int.toNat v1_18_0)]? = some (c_i64 x8_2)] (by kernel_rfl) ⟨ix_ob hx8_2, el_ob hx8_2, trivial⟩ ?_
    refine W_cond (decide (x8_2 = a1)) (by kernel_rfl) (fun hb2003 => ?_) (fun hb2003 => ?_)
    · have hx2004 := hb2003
      have h := if_t h hx2004
      refine W_seq ?_
      refine W_x (s' := LS.mk 30 [(4, aI .i64 v1_5_0)] []) mixed [(none, [], .no), (none, [], .no)] ⟨[4], [], [], [], [], [], []⟩ [] (by kernel_rfl) trivial ?_
      refine W_ret ?_
      exact kr [] _ _ (by kernel_rfl) (Option.some.inj h)
    · have hx2004 := hb2003
      have h := if_f h hx2004
      refine W_skip ?_
      refine W_x (s' := LS.mk 30 [(0, .t (.sl 6 (a0.map c_GApiNode))), (1, aI .i64 a1), (5, aI .i64 v1_5_0), (6, .ref 1006), (9, aI .i64 (a0.length : Int)), (10, aI .i64 v1_10_0), (17, aI .i64 (r4_2.length : Int)), (18, aI .i64 (IntKind.wrap .i64 (v1_18_0 + 1)))] [(1006, some (.row 3 1 (r4_2.map c_i64)))]) mixed [(none, [], .no), (none, [], .no)] ⟨[0, 1, 5, 6, 9, 10, 17, 18], [], [], [], [(1006, 1006)], [], []⟩ [] (by kernel_rfl) trivial ?_
      exact ⟨m, (v1_5_0, v1_10_0, (IntKind.wrap .i64 (v1_18_0 + 1))), Nat.le_refl _, ⟨Nat.le_of_lt hlt, h⟩, convX_fits (v := ⟨[0, 1, 5, 6, 9, 10, 17, 18], [], [], [], [(1006, 1006)], [], []⟩) (s' := LS.mk 30 [(0, .t (.sl 6 (a0.map c_GApiNode))), (1, aI .i64 a1), (5, aI .i64 v1_5_0), (6, .ref 1006), (9, aI .i64 (a0.length : Int)), (10, aI .i64 v1_10_0), (17, aI .i64 (r4_2.length : Int)), (18, aI .i64 (IntKind.wrap .i64 (v1_18_0 + 1)))] [(1006, some (.row 3 1 (r4_2.map c_i64)))]) (by kernel_rfl)⟩
  · have hx2002 := hb2001
    have h := if_f h hx2002
    refine W_exit ?_
    exact k_x_2 m hlt v1_10_0 _ h (convX_fits (v := ⟨[0, 1, 9, 10], [], [], [], [], [], []⟩) (s' := LS.mk 30 [(0, .t (.sl 6 (a0.map c_GApiNode))), (1, aI .i64 a1), (9, aI .i64 (a0.length : Int)), (10, aI .i64 v1_10_0)] []) (by kernel_rfl))
set_option maxRecDepth 100000 in
theorem hindcastref05_Up_j2_ok (n : Nat)   (r_ : Int) (Q' : Exit → St → Prop) (kr : ∀ (ns : List (Nat × Nat × Nat)) (s : LS) (x : Int), retX Try.prog ns [.tmp 4] s = some (aI .i64 x) → x = r_ → Q' .ret s.st)  (h : recN hindcastref05_Up_B n (.j2 ) = some r_) : W Try.prog (subC (bodyC Try.prog 21) [1, 1]) (LS.mk 30 [] []).st Q' := by
  cases n with
  | zero => cases h
  | succ m =>
  have hlt : m < m + 1 := Nat.lt_succ_self m
  replace h : hindcastref05_Up_j2_b (recN hindcastref05_Up_B m)  = some r_ := h
  unfold hindcastref05_Up_j2_b at h
  refine W_seq ?_
  refine W_x (s' := LS.mk 30 [(4, aI .i64 (-1))] []) mixed [(none, [], .no)] ⟨[4], [], [], [], [], [], []⟩ [] (by kernel_rfl) trivial ?_
  refine W_ret ?_
  exact kr [] _ _ (by kernel_rfl) (Option.some.inj h)
set_option maxRecDepth 100000 in
theorem hindcastref05_Up_j3_ok (n : Nat)  (a0 : (List GApiNode)) (a1 : Int) (v3_10_0 : Int) (r_ : Int) (Q' : Exit → St → Prop) (kr : ∀ (ns : List (Nat × Nat × Nat)) (s : LS) (x : Int), retX Try.prog ns [.tmp 4] s = some (aI .i64 x) → x = r_ → Q' .ret s.st) (k_n : ∀ (q : Nat), q < n → ∀ (v0_10_0 : Int) (s' : LS), recN hindcastref05_Up_B q (.l0 a0 a1 v0_10_0) = some r_ → Fits s'.st (LS.mk 30 [(0, .t (.sl 6 (a0.map c_GApiNode))), (1, aI .i64 a1), (9, aI .i64 (a0.length : Int)), (10, aI .i64 v0_10_0)] []).st → Q' .normal s'.st) (h : recN hindcastref05_Up_B n (.j3 a0 a1 v3_10_0) = some r_) : W Try.prog (subC (bodyC Try.prog 21) [1, 0, 1, 0, 0, 1, 1, 1]) (LS.mk 30 [(0, .t (.sl 6 (a0.map c_GApiNode))), (1, aI .i64 a1), (9, aI .i64 (a0.length : Int)), (10, aI .i64 v3_10_0)] []).st Q' := by
  cases n with
  | zero => cases h
  | succ m =>
  have hlt : m < m + 1 := Nat.lt_succ_self m
  replace h : hindcastref05_Up_j3_b (recN hindcastref05_Up_B m) a0 a1 v3_10_0 = some r_ := h
  unfold hindcastref05_Up_j3_b at h
  refine W_x (s' := LS.mk 30 [(0, .t (.sl 6 (a0.map c_GApiNode))), (1, aI .i64 a1), (9, aI .i64 (a0.length : Int)), (10, aI .i64 (IntKind.wrap .i64 (v3_10_0 + 1)))] []) mixed [(none, [], .no), (none, [], .no)] ⟨[0, 1, 9, 10], [], [], [], [], [], []⟩ [] (by kernel_rfl) trivial ?_
  exact k_n m hlt (IntKind.wrap .i64 (v3_10_0 + 1)) _ h (convX_fits (v := ⟨[0, 1, 9, 10], [], [], [], [], [], []⟩) (s' := LS.mk 30 [(0, .t (.sl 6 (a0.map c_GApiNode))), (1, aI .i64 a1), (9, aI .i64 (a0.length : Int)), (10, aI .i64 (IntKind.wrap .i64 (v3_10_0 + 1)))] []) (by kernel_rfl))
set_option maxRecDepth 100000 in
theorem hindcastref05_Up_l0_ok (n : Nat)  (a0 : (List GApiNode)) (a1 : Int) (v0_10_0 : Int) (r_ : Int) (Q' : Exit → St → Prop) (kr : ∀ (ns : List (Nat × Nat × Nat)) (s : LS) (x : Int), retX Try.prog ns [.tmp 4] s = some (aI .i64 x) → x = r_ → Q' .ret s.st) (k_x_0 : ∀ (q : Nat), q < n → ∀  (s' : LS), recN hindcastref05_Up_B q (.j2 ) = some r_ → Fits s'.st (LS.mk 30 [] []).st → Q' (.exit 0) s'.st) (h : recN hindcastref05_Up_B n (.l0 a0 a1 v0_10_0) = some r_) : W Try.prog (subC (bodyC Try.prog 21) [1, 0, 1, 0]) (LS.mk 30 [(0, .t (.sl 6 (a0.map c_GApiNode))), (1, aI .i64 a1), (9, aI .i64 (a0.length : Int)), (10, aI .i64 v0_10_0)] []).st Q' := by
  refine W_fix (σ := Int) (fun m x_ => m ≤ n ∧ recN hindcastref05_Up_B m (.l0 a0 a1 x_) = some r_) (fun x_ => LS.mk 30 [(0, .t (.sl 6 (a0.map c_GApiNode))), (1, aI .i64 a1), (9, aI .i64 (a0.length : Int)), (10, aI .i64 x_)] []) (fun x hx => by cases hx.2) (fun _ _ => rfl) ?_ n (v0_10_0) ⟨Nat.le_refl _, h⟩
  clear h
  rintro m v0_10_0 ⟨hlt, h⟩
  replace h : hindcastref05_Up_l0_b (recN hindcastref05_Up_B m) a0 a1 v0_10_0 = some r_ := h
  unfold hindcastref05_Up_l0_b at h
  refine W_seq ?_
  refine W_x (s' := LS.mk 30 [(0, .t (.sl 6 (a0.map c_GApiNode))), (1, aI .i64 a1), (9, aI .i64 (a0.length : Int)), (10, aI .i64 v0_10_0), (11, aB (decide (v0_10_0 < (a0.length : Int))))] []) mixed [(none, [], .no)] ⟨[0, 1, 9, 10, 11], [], [], [], [], [], []⟩ [] (by kernel_rfl) trivial ?_
  refine W_seq ?_
  refine W_cond (decide (v0_10_0 < (a0.length : Int))) (by kernel_rfl) (fun hb1001 => ?_) (fun hb1001 => ?_)
  · have hx1002 := hb1001
    have h := if_t h hx1002
    refine W_skip ?_
    refine W_seq ?_
    refine W_block ?_
    refine W_seq ?_
    refine W_x (s' := LS.mk 30 [(0, .t (.sl 6 (a0.map c_GApiNode))), (1, aI .i64 a1), (5, aI .i64 v0_10_0), (9, aI .i64 (a0.length : Int)), (10, aI .i64 v0_10_0)] []) mixed [(none, [], .no), (none, [], .no)] ⟨[0, 1, 5, 9, 10], [], [], [], [], [], []⟩ [] (by kernel_rfl) trivial ?_
    refine W_seq ?_
    obtain ⟨r4_2, hr4_2, h⟩ := bind_ok h
    have hr4_2 := hindcastref05_Kids_ok hr4_2
    refine W_x (s' := LS.mk 30 [(0, .t (.sl 6 (a0.map c_GApiNode))), (1, aI .i64 a1), (5, aI .i64 v0_10_0), (6, .ref 1006), (9, aI .i64 (a0.length : Int)), (10, aI .i64 v0_10_0)] [(1006, some (.row 3 1 (r4_2.map c_i64)))]) mixed [(none, [], .no), (none, [], .no), (none, [], .io ⟨[], [], [], [], [], [], [(800000, 15)]⟩ (.ref 800000) [(800000, .row 3 1 (r4_2.map c_i64))]), (none, [], .no)] ⟨[0, 1, 5, 6, 9, 10], [], [], [], [(15, 1006)], [], []⟩ [RI_hindcastref05_Kids a0 v0_10_0 r4_2] (by kernel_rfl) ⟨hr4_2, trivial⟩ ?_
    refine W_seq ?_
    refine W_x (s' := LS.mk 30 [(0, .t (.sl 6 (a0.map c_GApiNode))), (1, aI .i64 a1), (5, aI .i64 v0_10_0), (6, .ref 1006), (9, aI .i64 (a0.length : Int)), (10, aI .i64 v0_10_0), (17, aI .i64 (r4_2.length : Int)), (18, aI .i64 0)] [(1006, some (.row 3 1 (r4_2.map c_i64)))]) mixed [(none, [], .no), (none, [], .len r4_2.length), (none, [], .no)] ⟨[0, 1, 5, 6, 9, 10, 17, 18], [], [], [], [(1006, 1006)], [], []⟩ [(r4_2.map c_i64).length = r4_2.length] (by kernel_rfl) ⟨len_ob, trivial⟩ ?_
    refine W_block ?_
    exact W_conv (s' := LS.mk 30 [(0, .t (.sl 6 (a0.map c_GApiNode))), (1, aI .i64 a1), (5, aI .i64 v0_10_0), (6, .ref 1006), (9, aI .i64 (a0.length : Int)), (10, aI .i64 v0_10_0), (17, aI .i64 (r4_2.length : Int)), (18, aI .i64 0)] [(1006, some (.row 3 1 (r4_2.map c_i64)))]) ⟨[0, 1, 5, 6, 9, 10, 17, 18], [], [], [], [(1006, 1006)], [], []⟩ (by kernel_rfl) (hindcastref05_Up_l1_ok m a0 a1 v0_10_0 v0_10_0 r4_2 0 r_ _ kr (fun q1 hq1 v3_10_0 s' h hf => W_pre hf (hindcastref05_Up_j3_ok q1 a0 a1 v3_10_0 r_ _ kr (fun q2 hq2 v0_10_0 s' h hf => ⟨q2, (v0_10_0), Nat.le_of_lt (Nat.lt_trans hq2 hq1), ⟨Nat.le_of_lt (Nat.lt_trans hq2 (Nat.lt_trans hq1 hlt)), h⟩, hf⟩) h)) h)
  · have hx1002 := hb1001
    have h := if_f h hx1002
    refine W_exit ?_
    exact k_x_0 m hlt  _ h (convX_fits (v := ⟨[], [], [], [], [], [], []⟩) (s' := LS.mk 30 [] []) (by kernel_rfl))
noncomputable def hindcastref05_Up (a0 : (List GApiNode)) (a1 : Int) : Option Int :=
  hindcastref05_Up_l0 a0 a1 0
set_option maxRecDepth 100000 in
theorem hindcastref05_Up_ok {a0 : (List GApiNode)} {a1 : Int} {r_ : Int} (h : hindcastref05_Up a0 a1 = some r_) : R_hindcastref05_Up a0 a1 r_ := by
  unfold hindcastref05_Up at h
  refine fn_pureX (fn := Try.f21) (by kernel_rfl) (c := subC (bodyC Try.prog 21) []) (by kernel_rfl) (by kernel_rfl) (Nat.le_of_ble_eq_true (by kernel_rfl)) ?_
  generalize hQ' : retQ Try.prog Try.f21 (aI .i64 r_) = Q'
  have kr : ∀ (ns : List (Nat × Nat × Nat)) (s : LS) (x : Int), retX Try.prog ns [.tmp 4] s = some (aI .i64 x) → x = r_ → Q' .ret s.st := by subst hQ'; intro ns s x hx hq; subst hq; exact ret_ok (fn := Try.f21) ns hx
  change W Try.prog _ (LS.mk 30 [(0, .t (.sl 6 (a0.map c_GApiNode))), (1, aI .i64 a1)] []).st Q'
  refine W_seq ?_
  refine W_x (s' := LS.mk 30 [(0, .t (.sl 6 (a0.map c_GApiNode))), (1, aI .i64 a1)] []) mixed [(none, [], .no)] ⟨[0, 1], [], [], [], [], [], []⟩ [] (by kernel_rfl) trivial ?_
  refine W_seq ?_
  refine W_seq ?_
  refine W_x (s' := LS.mk 30 [(0, .t (.sl 6 (a0.map c_GApiNode))), (1, aI .i64 a1), (9, aI .i64 (a0.length : Int)), (10, aI .i64 0)] []) mixed [(none, [], .no), (none, [], .len a0.length), (none, [], .no)] ⟨[0, 1, 9, 10], [], [], [], [], [], []⟩ [(a0.map c_GApiNode).length = a0.length] (by kernel_rfl) ⟨len_ob, trivial⟩ ?_
  refine W_block ?_
  obtain ⟨n, h⟩ := fix_rec h
  exact W_conv (s' := LS.mk 30 [(0, .t (.sl 6 (a0.map c_GApiNode))), (1, aI .i64 a1), (9, aI .i64 (a0.length : Int)), (10, aI .i64 0)] []) ⟨[0, 1, 9, 10], [], [], [], [], [], []⟩ (by kernel_rfl) (hindcastref05_Up_l0_ok n a0 a1 0 r_ _ kr (fun q1 hq1  s' h hf => W_pre hf (hindcastref05_Up_j2_ok q1 r_ _ kr h)) h)
def R_hindcastlaw05_TreeKids (a0 : (List GApiNode)) (a1 : Int) (r : Bool) : Prop := FnP Try.prog 5 [.t (.sl 6 (a0.map c_GApiNode)), aI .i64 a1] (aB r)
inductive hindcastlaw05_TreeKids_C where
  | j0 (r3_5 : Int) (r3_2 : (List Int))
  | l1 (r6_2 : (List Int)) (v1_59_0 : Int) (r3_2 : (List Int))
  | j2 
abbrev hindcastlaw05_TreeKids_C_T : hindcastlaw05_TreeKids_C → Type := fun _ => Bool
noncomputable def hindcastlaw05_TreeKids_j0_b (g : (i : hindcastlaw05_TreeKids_C) → Option (hindcastlaw05_TreeKids_C_T i)) (r3_5 : Int) (r3_2 : (List Int)) : Option Bool :=
  (if (r3_2.length : Int) = 0 then (if r3_5 = (-1) then ((hindcastlaw05_awake).bind fun (r5_8 : Bool) => (some r5_8)) else (some false)) else (some false))
noncomputable def hindcastlaw05_TreeKids_l1_b (g : (i : hindcastlaw05_TreeKids_C) → Option (hindcastlaw05_TreeKids_C_T i)) (r6_2 : (List Int)) (v1_59_0 : Int) (r3_2 : (List Int)) : Option Bool :=
  (if v1_59_0 < (r6_2.length : Int) then ((getI r3_2 v1_59_0).bind fun (x12_2 : Int) => ((getI r6_2 v1_59_0).bind fun (x12_6 : Int) => (if x12_2 = x12_6 then g (.l1 r6_2 (IntKind.wrap .i64 (v1_59_0 + 1)) r3_2) else (some false)))) else g (.j2))
noncomputable def hindcastlaw05_TreeKids_j2_b (g : (i : hindcastlaw05_TreeKids_C) → Option (hindcastlaw05_TreeKids_C_T i))  : Option Bool :=
  ((hindcastlaw05_awake).bind fun (r15_0 : Bool) => (some r15_0))
noncomputable def hindcastlaw05_TreeKids_B (g : (i : hindcastlaw05_TreeKids_C) → Option (hindcastlaw05_TreeKids_C_T i)) : (i : hindcastlaw05_TreeKids_C) → Option (hindcastlaw05_TreeKids_C_T i)
  | .j0 r3_5 r3_2 => hindcastlaw05_TreeKids_j0_b g r3_5 r3_2
  | .l1 r6_2 v1_59_0 r3_2 => hindcastlaw05_TreeKids_l1_b g r6_2 v1_59_0 r3_2
  | .j2  => hindcastlaw05_TreeKids_j2_b g 
theorem hindcastlaw05_TreeKids_B_fin (i : hindcastlaw05_TreeKids_C) : Fin1 (fun g => hindcastlaw05_TreeKids_B g i) := by
  cases i with
  | j0 r3_5 r3_2 => show Fin1 (fun g => hindcastlaw05_TreeKids_j0_b g r3_5 r3_2); unfold hindcastlaw05_TreeKids_j0_b; repeat (first | refine fin_bind ?_ (fun _ => ?_) | refine fin_ite ?_ ?_ | exact fin_ask _ | exact fin_const _)
  | l1 r6_2 v1_59_0 r3_2 => show Fin1 (fun g => hindcastlaw05_TreeKids_l1_b g r6_2 v1_59_0 r3_2); unfold hindcastlaw05_TreeKids_l1_b; repeat (first | refine fin_bind ?_ (fun _ => ?_) | refine fin_ite ?_ ?_ | exact fin_ask _ | exact fin_const _)
  | j2  => show Fin1 (fun g => hindcastlaw05_TreeKids_j2_b g ); unfold hindcastlaw05_TreeKids_j2_b; repeat (first | refine fin_bind ?_ (fun _ => ?_) | refine fin_ite ?_ ?_ | exact fin_ask _ | exact fin_const _)
noncomputable def hindcastlaw05_TreeKids_j0 (r3_5 : Int) (r3_2 : (List Int)) : Option Bool := fixD hindcastlaw05_TreeKids_B (.j0 r3_5 r3_2)
noncomputable def hindcastlaw05_TreeKids_l1 (r6_2 : (List Int)) (v1_59_0 : Int) (r3_2 : (List Int)) : Option Bool := fixD hindcastlaw05_TreeKids_B (.l1 r6_2 v1_59_0 r3_2)
noncomputable def hindcastlaw05_TreeKids_j2  : Option Bool := fixD hindcastlaw05_TreeKids_B (.j2 )
theorem hindcastlaw05_TreeKids_j0_eq (r3_5 : Int) (r3_2 : (List Int)) : hindcastlaw05_TreeKids_j0 r3_5 r3_2 =
  (if (r3_2.length : Int) = 0 then (if r3_5 = (-1) then ((hindcastlaw05_awake).bind fun (r5_8 : Bool) => (some r5_8)) else (some false)) else (some false)) := fix_eq hindcastlaw05_TreeKids_B_fin _
theorem hindcastlaw05_TreeKids_l1_eq (r6_2 : (List Int)) (v1_59_0 : Int) (r3_2 : (List Int)) : hindcastlaw05_TreeKids_l1 r6_2 v1_59_0 r3_2 =
  (if v1_59_0 < (r6_2.length : Int) then ((getI r3_2 v1_59_0).bind fun (x12_2 : Int) => ((getI r6_2 v1_59_0).bind fun (x12_6 : Int) => (if x12_2 = x12_6 then hindcastlaw05_TreeKids_l1 r6_2 (IntKind.wrap .i64 (v1_59_0 + 1)) r3_2 else (some false)))) else hindcastlaw05_TreeKids_j2) := fix_eq hindcastlaw05_TreeKids_B_fin _
theorem hindcastlaw05_TreeKids_j2_eq  : hindcastlaw05_TreeKids_j2  =
  ((hindcastlaw05_awake).bind fun (r15_0 : Bool) => (some r15_0)) := fix_eq hindcastlaw05_TreeKids_B_fin _
set_option maxRecDepth 100000 in
theorem hindcastlaw05_TreeKids_j0_ok (n : Nat)  (r3_5 : Int) (r3_2 : (List Int)) (r_ : Bool) (Q' : Exit → St → Prop) (kr : ∀ (ns : List (Nat × Nat × Nat)) (s : LS) (x : Bool), retX Try.prog ns [.tmp 4] s = some (aB x) → x = r_ → Q' .ret s.st)  (h : recN hindcastlaw05_TreeKids_B n (.j0 r3_5 r3_2) = some r_) : W Try.prog (subC (bodyC Try.prog 5) [1, 1, 1, 0, 1, 0]) (LS.mk 73 [(5, .ref 1005), (6, aI .i64 r3_5)] [(1005, some (.row 3 1 (r3_2.map c_i64)))]).st Q' := by
  cases n with
  | zero => cases h
  | succ m =>
  have hlt : m < m + 1 := Nat.lt_succ_self m
  replace h : hindcastlaw05_TreeKids_j0_b (recN hindcastlaw05_TreeKids_B m) r3_5 r3_2 = some r_ := h
  unfold hindcastlaw05_TreeKids_j0_b at h
  refine W_seq ?_
  refine (Bool.eq_false_or_eq_true (decide ((r3_2.length : Int) = 0))).elim (fun hb1001 => ?_) (fun hb1001 => ?_)
  · have hx1002 := hb1001
    have h := if_t h hx1002
    refine (Bool.eq_false_or_eq_true (decide (r3_5 = (-1)))).elim (fun hb1003 => ?_) (fun hb1003 => ?_)
    · have hx1004 := hb1003
      have h := if_t h hx1004
      obtain ⟨r5_8, hr5_8, h⟩ := bind_ok h
      have hr5_8 := hindcastlaw05_awake_ok hr5_8
      refine W_x (s' := LS.mk 73 [(4, aB r5_8)] []) mixed [(none, [], .no), (none, [], .len r3_2.length), (none, [], .no), (none, [], .no), (some true, [], .no), (some true, [], .no), (none, [], .dec true), (none, [], .no), (some true, [], .call [] (aB r5_8)), (none, [], .dec true), (none, [], .no)] ⟨[4], [], [], [], [], [], []⟩ [(r3_2.map c_i64).length = r3_2.length, (decide ((r3_2.length : Int) = 0)) = true, (decide ((r3_2.length : Int) = 0)) = true, (decide ((r3_2.length : Int) = 0)) = true, (decide (r3_5 = (-1))) = true, R_hindcastlaw05_awake r5_8, (decide (r3_5 = (-1))) = true] (by kernel_rfl) ⟨len_ob, hx1002, hx1002, hx1002, hx1004, hr5_8, hx1004, trivial⟩ ?_
      refine W_ret ?_
      exact kr [] _ _ (by kernel_rfl) (Option.some.inj h)
    · have hx1004 := hb1003
      have h := if_f h hx1004
      refine W_x (s' := LS.mk 73 [(4, aB false)] []) mixed [(none, [], .no), (none, [], .len r3_2.length), (none, [], .no), (none, [], .no), (some true, [], .no), (some true, [], .no), (none, [], .dec true), (none, [], .no), (some false, [], .no), (none, [], .dec false), (none, [], .no)] ⟨[4], [], [], [], [], [], []⟩ [(r3_2.map c_i64).length = r3_2.length, (decide ((r3_2.length : Int) = 0)) = true, (decide ((r3_2.length : Int) = 0)) = true, (decide ((r3_2.length : Int) = 0)) = true, (decide (r3_5 = (-1))) = false, (decide (r3_5 = (-1))) = false] (by kernel_rfl) ⟨len_ob, hx1002, hx1002, hx1002, hx1004, hx1004, trivial⟩ ?_
      refine W_ret ?_
      exact kr [] _ _ (by kernel_rfl) (Option.some.inj h)
  · have hx1002 := hb1001
    have h := if_f h hx1002
    refine W_x (s' := LS.mk 73 [(4, aB false)] []) mixed [(none, [], .no), (none, [], .len r3_2.length), (none, [], .no), (none, [], .no), (some false, [], .no), (some false, [], .no), (none, [], .dec false), (none, [], .no), (none, [], .no), (none, [], .no), (none, [], .no)] ⟨[4], [], [], [], [], [], []⟩ [(r3_2.map c_i64).length = r3_2.length, (decide ((r3_2.length : Int) = 0)) = false, (decide ((r3_2.length : Int) = 0)) = false, (decide ((r3_2.length : Int) = 0)) = false] (by kernel_rfl) ⟨len_ob, hx1002, hx1002, hx1002, trivial⟩ ?_
    refine W_ret ?_
    exact kr [] _ _ (by kernel_rfl) (Option.some.inj h)
set_option maxRecDepth 100000 in
theorem hindcastlaw05_TreeKids_l1_ok (n : Nat)  (r6_2 : (List Int)) (v1_59_0 : Int) (r3_2 : (List Int)) (r_ : Bool) (Q' : Exit → St → Prop) (kr : ∀ (ns : List (Nat × Nat × Nat)) (s : LS) (x : Bool), retX Try.prog ns [.tmp 4] s = some (aB x) → x = r_ → Q' .ret s.st) (k_x_0 : ∀ (q : Nat), q < n → ∀  (s' : LS), recN hindcastlaw05_TreeKids_B q (.j2 ) = some r_ → Fits s'.st (LS.mk 73 [] []).st → Q' (.exit 0) s'.st) (h : recN hindcastlaw05_TreeKids_B n (.l1 r6_2 v1_59_0 r3_2) = some r_) : W Try.prog (subC (bodyC Try.prog 5) [1, 1, 1, 1, 1, 1, 0, 1, 0]) (LS.mk 73 [(5, .ref 1005), (7, .ref 1007), (58, aI .i64 (r6_2.length : Int)), (59, aI .i64 v1_59_0)] [(1005, some (.row 3 1 (r3_2.map c_i64))), (1007, some (.row 3 1 (r6_2.map c_i64)))]).st Q' := by
  refine W_fix (σ := Int) (fun m x_ => m ≤ n ∧ recN hindcastlaw05_TreeKids_B m (.l1 r6_2 x_ r3_2) = some r_) (fun x_ => LS.mk 73 [(5, .ref 1005), (7, .ref 1007), (58, aI .i64 (r6_2.length : Int)), (59, aI .i64 x_)] [(1005, some (.row 3 1 (r3_2.map c_i64))), (1007, some (.row 3 1 (r6_2.map c_i64)))]) (fun x hx => by cases hx.2) (fun _ _ => rfl) ?_ n (v1_59_0) ⟨Nat.le_refl _, h⟩
  clear h
  rintro m v1_59_0 ⟨hlt, h⟩
  replace h : hindcastlaw05_TreeKids_l1_b (recN hindcastlaw05_TreeKids_B m) r6_2 v1_59_0 r3_2 = some r_ := h
  unfold hindcastlaw05_TreeKids_l1_b at h
  refine W_seq ?_
  refine W_x (s' := LS.mk 73 [(5, .ref 1005), (7, .ref 1007), (58, aI .i64 (r6_2.length : Int)), (59, aI .i64 v1_59_0), (60, aB (decide (v1_59_0 < (r6_2.length : Int))))] [(1005, some (.row 3 1 (r3_2.map c_i64))), (1007, some (.row 3 1 (r6_2.map c_i64)))]) mixed [(none, [], .no)] ⟨[5, 7, 58, 59, 60], [], [], [], [(1005, 1005), (1007, 1007)], [], []⟩ [] (by kernel_rfl) trivial ?_
  refine W_seq ?_
  refine W_cond (decide (v1_59_0 < (r6_2.length : Int))) (by kernel_rfl) (fun hb2001 => ?_) (fun hb2001 => ?_)
  · have hx2002 := hb2001
    have h := if_t h hx2002
    refine W_skip ?_
    refine W_seq ?_
    refine W_block ?_
    refine W_seq ?_
    refine W_x (s' := LS.mk 73 [(5, .ref 1005), (7, .ref 1007), (8, aI .i64 v1_59_0), (58, aI .i64 (r6_2.length : Int)), (59, aI .i64 v1_59_0)] [(1005, some (.row 3 1 (r3_2.map c_i64))), (1007, some (.row 3 1 (r6_2.map c_i64)))]) mixed [(none, [], .no), (none, [], .no)] ⟨[5, 7, 8, 58, 59], [], [], [], [(1005, 1005), (1007, 1007)], [], []⟩ [] (by kernel_rfl) trivial ?_
    refine W_seq ?_
    obtain ⟨x12_2, hx12_2, h⟩ := bind_ok h
    obtain ⟨x12_6, hx12_6, h⟩ := bind_ok h
    refine W_x (s' := LS.mk 73 [(5, .ref 1005), (7, .ref 1007), (58, aI .i64 (r6_2.length : Int)), (59, aI .i64 v1_59_0), (70, aB (!(decide (x12_2 = x12_6))))] [(1005, some (.row 3 1 (r3_2.map c_i64))), (1007, some (.row 3 1 (r6_2.map c_i64)))]) mixed [(none, [], .no), (none, [], .no), (none, [], .ix (Int.toNat v1_59_0) (c_i64 x12_2)), (none, [], .ix (Int.toNat v1_59_0) (c_i64 x12_2)), (none, [], .no), (none, [], .no), (none, [], .ix (Int.toNat v1_59_0) (c_i64 x12_6)), (none, [], .ix (Int.toNat v1_59_0) (c_i64 x12_6)), (none, [], .no)] ⟨[5, 7, 58, 59, 70], [], [], [], [(1005, 1005), (1007, 1007)], [], []⟩ [IxOb (r3_2.map c_i64) v1_59_0 (Int.toNat v1_59_0) (c_i64 x12_2), (r3_2.map c_i64)[(Int.toNat v1_59_0)]? = some (c_i64 x12_2), IxOb (r6_2.map c_i64) v1_59_0 (Int.toNat v1_59_0) (c_i64 x12_6), (r6_2.map c_i64)[(Int.toNat v1_59_0)]? = some (c_i64 x12_6)] (by kernel_rfl) ⟨ix_ob hx12_2, el_ob hx12_2, ix_ob hx12_6, el_ob hx12_6, trivial⟩ ?_
    refine W_cond (!(decide (x12_2 = x12_6))) (by kernel_rfl) (fun hb2003 => ?_) (fun hb2003 => ?_)
    · have hx2004 : (decide (x12_2 = x12_6)) = false := (bnot_t hb2003)
      have h := if_f h hx2004
      refine W_seq ?_
      refine W_x (s' := LS.mk 73 [(4, aB false)] []) mixed [(none, [], .no)] ⟨[4], [], [], [], [], [], []⟩ [] (by kernel_rfl) trivial ?_
      refine W_ret ?_
      exact kr [] _ _ (by kernel_rfl) (Option.some.inj h)
    · have hx2004 : (decide (x12_2 = x12_6)) = true := (bnot_f hb2003)
      have h := if_t h hx2004
      refine W_skip ?_
      refine W_x (s' := LS.mk 73 [(5, .ref 1005), (7, .ref 1007), (58, aI .i64 (r6_2.length : Int)), (59, aI .i64 (IntKind.wrap .i64 (v1_59_0 + 1)))] [(1005, some (.row 3 1 (r3_2.map c_i64))), (1007, some (.row 3 1 (r6_2.map c_i64)))]) mixed [(none, [], .no), (none, [], .no)] ⟨[5, 7, 58, 59], [], [], [], [(1005, 1005), (1007, 1007)], [], []⟩ [] (by kernel_rfl) trivial ?_
      exact ⟨m, ((IntKind.wrap .i64 (v1_59_0 + 1))), Nat.le_refl _, ⟨Nat.le_of_lt hlt, h⟩, convX_fits (v := ⟨[5, 7, 58, 59], [], [], [], [(1005, 1005), (1007, 1007)], [], []⟩) (s' := LS.mk 73 [(5, .ref 1005), (7, .ref 1007), (58, aI .i64 (r6_2.length : Int)), (59, aI .i64 (IntKind.wrap .i64 (v1_59_0 + 1)))] [(1005, some (.row 3 1 (r3_2.map c_i64))), (1007, some (.row 3 1 (r6_2.map c_i64)))]) (by kernel_rfl)⟩
  · have hx2002 := hb2001
    have h := if_f h hx2002
    refine W_exit ?_
    exact k_x_0 m hlt  _ h (convX_fits (v := ⟨[], [], [], [], [], [], []⟩) (s' := LS.mk 73 [] []) (by kernel_rfl))
set_option maxRecDepth 100000 in
theorem hindcastlaw05_TreeKids_j2_ok (n : Nat)   (r_ : Bool) (Q' : Exit → St → Prop) (kr : ∀ (ns : List (Nat × Nat × Nat)) (s : LS) (x : Bool), retX Try.prog ns [.tmp 4] s = some (aB x) → x = r_ → Q' .ret s.st)  (h : recN hindcastlaw05_TreeKids_B n (.j2 ) = some r_) : W Try.prog (subC (bodyC Try.prog 5) [1, 1, 1, 1, 1, 1, 1]) (LS.mk 73 [] []).st Q' := by
  cases n with
  | zero => cases h
  | succ m =>
  have hlt : m < m + 1 := Nat.lt_succ_self m
  replace h : hindcastlaw05_TreeKids_j2_b (recN hindcastlaw05_TreeKids_B m)  = some r_ := h
  unfold hindcastlaw05_TreeKids_j2_b at h
  refine W_seq ?_
  obtain ⟨r15_0, hr15_0, h⟩ := bind_ok h
  have hr15_0 := hindcastlaw05_awake_ok hr15_0
  refine W_x (s' := LS.mk 73 [(4, aB r15_0)] []) mixed [(none, [], .call [] (aB r15_0)), (none, [], .no)] ⟨[4], [], [], [], [], [], []⟩ [R_hindcastlaw05_awake r15_0] (by kernel_rfl) ⟨hr15_0, trivial⟩ ?_
  refine W_ret ?_
  exact kr [] _ _ (by kernel_rfl) (Option.some.inj h)
noncomputable def hindcastlaw05_TreeKids (a0 : (List GApiNode)) (a1 : Int) : Option Bool :=
  (if (a0.length : Int) > 300 then ((hindcastlaw05_awake).bind fun (r2_0 : Bool) => (some r2_0)) else ((tree_Kids a0 a1).bind fun (r3_2 : (List Int)) => ((tree_Up a0 a1).bind fun (r3_5 : Int) => (if a1 < 0 then hindcastlaw05_TreeKids_j0 r3_5 r3_2 else (if a1 ≥ (a0.length : Int) then hindcastlaw05_TreeKids_j0 r3_5 r3_2 else ((hindcastref05_Right a0).bind fun (r4_10 : Bool) => (if r4_10 = true then ((hindcastref05_Kids a0 a1).bind fun (r6_2 : (List Int)) => (if (r3_2.length : Int) = (r6_2.length : Int) then ((hindcastref05_Up a0 a1).bind fun (r7_9 : Int) => (if r3_5 = r7_9 then hindcastlaw05_TreeKids_l1 r6_2 0 r3_2 else (some false))) else (some false))) else hindcastlaw05_TreeKids_j0 r3_5 r3_2)))))))
set_option maxRecDepth 100000 in
theorem hindcastlaw05_TreeKids_ok {a0 : (List GApiNode)} {a1 : Int} {r_ : Bool} (h : hindcastlaw05_TreeKids a0 a1 = some r_) : R_hindcastlaw05_TreeKids a0 a1 r_ := by
  unfold hindcastlaw05_TreeKids at h
  refine fn_pureX (fn := Try.f5) (by kernel_rfl) (c := subC (bodyC Try.prog 5) []) (by kernel_rfl) (by kernel_rfl) (Nat.le_of_ble_eq_true (by kernel_rfl)) ?_
  generalize hQ' : retQ Try.prog Try.f5 (aB r_) = Q'
  have kr : ∀ (ns : List (Nat × Nat × Nat)) (s : LS) (x : Bool), retX Try.prog ns [.tmp 4] s = some (aB x) → x = r_ → Q' .ret s.st := by subst hQ'; intro ns s x hx hq; subst hq; exact ret_ok (fn := Try.f5) ns hx
  change W Try.prog _ (LS.mk 73 [(0, .t (.sl 6 (a0.map c_GApiNode))), (1, aI .i64 a1)] []).st Q'
  refine W_seq ?_
  refine W_x (s' := LS.mk 73 [(0, .t (.sl 6 (a0.map c_GApiNode))), (1, aI .i64 a1)] []) mixed [(none, [], .no)] ⟨[0, 1], [], [], [], [], [], []⟩ [] (by kernel_rfl) trivial ?_
  refine W_seq ?_
  refine W_seq ?_
  refine W_x (s' := LS.mk 73 [(0, .t (.sl 6 (a0.map c_GApiNode))), (1, aI .i64 a1), (11, aB (decide ((a0.length : Int) > 300)))] []) mixed [(none, [], .no), (none, [], .len a0.length), (none, [], .no)] ⟨[0, 1, 11], [], [], [], [], [], []⟩ [(a0.map c_GApiNode).length = a0.length] (by kernel_rfl) ⟨len_ob, trivial⟩ ?_
  refine W_cond (decide ((a0.length : Int) > 300)) (by kernel_rfl) (fun hb1 => ?_) (fun hb1 => ?_)
  · have hx2 := hb1
    have h := if_t h hx2
    refine W_seq ?_
    obtain ⟨r2_0, hr2_0, h⟩ := bind_ok h
    have hr2_0 := hindcastlaw05_awake_ok hr2_0
    refine W_x (s' := LS.mk 73 [(4, aB r2_0)] []) mixed [(none, [], .call [] (aB r2_0)), (none, [], .no)] ⟨[4], [], [], [], [], [], []⟩ [R_hindcastlaw05_awake r2_0] (by kernel_rfl) ⟨hr2_0, trivial⟩ ?_
    refine W_ret ?_
    exact kr [] _ _ (by kernel_rfl) (Option.some.inj h)
  · have hx2 := hb1
    have h := if_f h hx2
    refine W_skip ?_
    refine W_seq ?_
    obtain ⟨r3_2, hr3_2, h⟩ := bind_ok h
    have hr3_2 := tree_Kids_ok hr3_2
    obtain ⟨r3_5, hr3_5, h⟩ := bind_ok h
    have hr3_5 := tree_Up_ok hr3_5
    refine W_x (s' := LS.mk 73 [(0, .t (.sl 6 (a0.map c_GApiNode))), (1, aI .i64 a1), (5, .ref 1005), (6, aI .i64 r3_5)] [(1005, some (.row 3 1 (r3_2.map c_i64)))]) mixed [(none, [], .no), (none, [], .no), (none, [], .io ⟨[], [], [], [], [], [], [(800000, 15)]⟩ (.ref 800000) [(800000, .row 3 1 (r3_2.map c_i64))]), (none, [], .no), (none, [], .no), (none, [], .call [] (aI .i64 r3_5)), (none, [], .no), (none, [], .no)] ⟨[0, 1, 5, 6], [], [], [], [(15, 1005)], [], []⟩ [RI_tree_Kids a0 a1 r3_2, R_tree_Up a0 a1 r3_5] (by kernel_rfl) ⟨hr3_2, hr3_5, trivial⟩ ?_
    refine W_seq ?_
    refine W_seq ?_
    refine (Bool.eq_false_or_eq_true (decide (a1 < 0))).elim (fun hb3 => ?_) (fun hb3 => ?_)
    · have hx4 := hb3
      have h := if_t h hx4
      refine W_x (s' := LS.mk 73 [(0, .t (.sl 6 (a0.map c_GApiNode))), (1, aI .i64 a1), (5, .ref 1005), (6, aI .i64 r3_5), (31, aB true)] [(1005, some (.row 3 1 (r3_2.map c_i64)))]) mixed [(none, [], .no), (none, [], .no), (none, [], .no), (some true, [], .no), (some true, [], .no), (some true, [], .no), (some true, [], .no), (none, [], .dec true), (none, [], .no), (none, [], .no), (none, [], .no), (none, [], .no), (none, [], .no)] ⟨[0, 1, 5, 6, 31], [], [], [], [(1005, 1005)], [], []⟩ [(decide (a1 < 0)) = true, (decide (a1 < 0)) = true, (decide (a1 < 0)) = true, (decide (a1 < 0)) = true, (decide (a1 < 0)) = true] (by kernel_rfl) ⟨hx4, hx4, hx4, hx4, hx4, trivial⟩ ?_
      refine W_cond true (by kernel_rfl) (fun _ => ?_) (fun hb => nomatch ((rfl : true = true).symm.trans hb))
      obtain ⟨n, h⟩ := fix_rec h
      exact W_conv (s' := LS.mk 73 [(5, .ref 1005), (6, aI .i64 r3_5)] [(1005, some (.row 3 1 (r3_2.map c_i64)))]) ⟨[5, 6], [], [], [], [(1005, 1005)], [], []⟩ (by kernel_rfl) (hindcastlaw05_TreeKids_j0_ok n r3_5 r3_2 r_ _ kr h)
    · have hx4 := hb3
      have h := if_f h hx4
      refine (Bool.eq_false_or_eq_true (decide (a1 ≥ (a0.length : Int)))).elim (fun hb5 => ?_) (fun hb5 => ?_)
      · have hx6 := hb5
        have h := if_t h hx6
        refine W_x (s' := LS.mk 73 [(0, .t (.sl 6 (a0.map c_GApiNode))), (1, aI .i64 a1), (5, .ref 1005), (6, aI .i64 r3_5), (31, aB true)] [(1005, some (.row 3 1 (r3_2.map c_i64)))]) mixed [(none, [], .no), (none, [], .no), (none, [], .no), (some false, [], .no), (some false, [], .no), (some false, [], .len a0.length), (some false, [], .no), (none, [], .dec false), (none, [], .no), (some true, [], .no), (some true, [], .no), (some true, [], .no), (none, [], .dec true)] ⟨[0, 1, 5, 6, 31], [], [], [], [(1005, 1005)], [], []⟩ [(decide (a1 < 0)) = false, (decide (a1 < 0)) = false, (decide (a1 < 0)) = false, (a0.map c_GApiNode).length = a0.length, (decide (a1 < 0)) = false, (decide (a1 < 0)) = false, (decide (a1 ≥ (a0.length : Int))) = true, (decide (a1 ≥ (a0.length : Int))) = true, (decide (a1 ≥ (a0.length : Int))) = true, (decide (a1 ≥ (a0.length : Int))) = true] (by kernel_rfl) ⟨hx4, hx4, hx4, len_ob, hx4, hx4, hx6, hx6, hx6, hx6, trivial⟩ ?_
        refine W_cond true (by kernel_rfl) (fun _ => ?_) (fun hb => nomatch ((rfl : true = true).symm.trans hb))
        obtain ⟨n, h⟩ := fix_rec h
        exact W_conv (s' := LS.mk 73 [(5, .ref 1005), (6, aI .i64 r3_5)] [(1005, some (.row 3 1 (r3_2.map c_i64)))]) ⟨[5, 6], [], [], [], [(1005, 1005)], [], []⟩ (by kernel_rfl) (hindcastlaw05_TreeKids_j0_ok n r3_5 r3_2 r_ _ kr h)
      · have hx6 := hb5
        have h := if_f h hx6
        obtain ⟨r4_10, hr4_10, h⟩ := bind_ok h
        have hr4_10 := hindcastref05_Right_ok hr4_10
        refine W_x (s' := LS.mk 73 [(0, .t (.sl 6 (a0.map c_GApiNode))), (1, aI .i64 a1), (5, .ref 1005), (6, aI .i64 r3_5), (31, aB (!r4_10))] [(1005, some (.row 3 1 (r3_2.map c_i64)))]) mixed [(none, [], .no), (none, [], .no), (none, [], .no), (some false, [], .no), (some false, [], .no), (some false, [], .len a0.length), (some false, [], .no), (none, [], .dec false), (none, [], .no), (some false, [], .no), (some false, [], .call [] (aB r4_10)), (some false, [], .no), (none, [], .dec false)] ⟨[0, 1, 5, 6, 31], [], [], [], [(1005, 1005)], [], []⟩ [(decide (a1 < 0)) = false, (decide (a1 < 0)) = false, (decide (a1 < 0)) = false, (a0.map c_GApiNode).length = a0.length, (decide (a1 < 0)) = false, (decide (a1 < 0)) = false, (decide (a1 ≥ (a0.length : Int))) = false, (decide (a1 ≥ (a0.length : Int))) = false, R_hindcastref05_Right a0 r4_10, (decide (a1 ≥ (a0.length : Int))) = false, (decide (a1 ≥ (a0.length : Int))) = false] (by kernel_rfl) ⟨hx4, hx4, hx4, len_ob, hx4, hx4, hx6, hx6, hr4_10, hx6, hx6, trivial⟩ ?_
        refine W_cond (!r4_10) (by kernel_rfl) (fun hb7 => ?_) (fun hb7 => ?_)
        · have hx8 : r4_10 = false := (bnot_t hb7)
          have h := ib_f h hx8
          obtain ⟨n, h⟩ := fix_rec h
          exact W_conv (s' := LS.mk 73 [(5, .ref 1005), (6, aI .i64 r3_5)] [(1005, some (.row 3 1 (r3_2.map c_i64)))]) ⟨[5, 6], [], [], [], [(1005, 1005)], [], []⟩ (by kernel_rfl) (hindcastlaw05_TreeKids_j0_ok n r3_5 r3_2 r_ _ kr h)
        · have hx8 : r4_10 = true := (bnot_f hb7)
          have h := ib_t h hx8
          refine W_skip ?_
          refine W_seq ?_
          obtain ⟨r6_2, hr6_2, h⟩ := bind_ok h
          have hr6_2 := hindcastref05_Kids_ok hr6_2
          refine W_x (s' := LS.mk 73 [(0, .t (.sl 6 (a0.map c_GApiNode))), (1, aI .i64 a1), (5, .ref 1005), (6, aI .i64 r3_5), (7, .ref 1007)] [(1007, some (.row 3 1 (r6_2.map c_i64))), (1005, some (.row 3 1 (r3_2.map c_i64)))]) mixed [(none, [], .no), (none, [], .no), (none, [], .io ⟨[], [], [], [], [], [], [(800000, 44)]⟩ (.ref 800000) [(800000, .row 3 1 (r6_2.map c_i64))]), (none, [], .no)] ⟨[0, 1, 5, 6, 7], [], [], [], [(44, 1007), (1005, 1005)], [], []⟩ [RI_hindcastref05_Kids a0 a1 r6_2] (by kernel_rfl) ⟨hr6_2, trivial⟩ ?_
          refine W_seq ?_
          refine W_seq ?_
          refine (Bool.eq_false_or_eq_true (!(decide ((r3_2.length : Int) = (r6_2.length : Int))))).elim (fun hb9 => ?_) (fun hb9 => ?_)
          · have hx10 : (decide ((r3_2.length : Int) = (r6_2.length : Int))) = false := (bnot_t hb9)
            have h := if_f h hx10
            refine W_x (s' := LS.mk 73 [(5, .ref 1005), (7, .ref 1007), (56, aB true)] [(1005, some (.row 3 1 (r3_2.map c_i64))), (1007, some (.row 3 1 (r6_2.map c_i64)))]) mixed [(none, [], .no), (none, [], .len r3_2.length), (none, [], .no), (none, [], .len r6_2.length), (none, [], .no), (none, [], .no), (some true, [], .no), (some true, [], .no), (some true, [], .no), (some true, [], .no), (some true, [], .no), (none, [], .dec true)] ⟨[5, 7, 56], [], [], [], [(1005, 1005), (1007, 1007)], [], []⟩ [(r3_2.map c_i64).length = r3_2.length, (r6_2.map c_i64).length = r6_2.length, (!(decide ((r3_2.length : Int) = (r6_2.length : Int)))) = true, (!(decide ((r3_2.length : Int) = (r6_2.length : Int)))) = true, (!(decide ((r3_2.length : Int) = (r6_2.length : Int)))) = true, (!(decide ((r3_2.length : Int) = (r6_2.length : Int)))) = true, (!(decide ((r3_2.length : Int) = (r6_2.length : Int)))) = true, (!(decide ((r3_2.length : Int) = (r6_2.length : Int)))) = true] (by kernel_rfl) ⟨len_ob, len_ob, (not_f hx10), (not_f hx10), (not_f hx10), (not_f hx10), (not_f hx10), (not_f hx10), trivial⟩ ?_
            refine W_cond true (by kernel_rfl) (fun _ => ?_) (fun hb => nomatch ((rfl : true = true).symm.trans hb))
            refine W_seq ?_
            refine W_x (s' := LS.mk 73 [(4, aB false)] []) mixed [(none, [], .no)] ⟨[4], [], [], [], [], [], []⟩ [] (by kernel_rfl) trivial ?_
            refine W_ret ?_
            exact kr [] _ _ (by kernel_rfl) (Option.some.inj h)
          · have hx10 : (decide ((r3_2.length : Int) = (r6_2.length : Int))) = true := (bnot_f hb9)
            have h := if_t h hx10
            obtain ⟨r7_9, hr7_9, h⟩ := bind_ok h
            have hr7_9 := hindcastref05_Up_ok hr7_9
            refine W_x (s' := LS.mk 73 [(5, .ref 1005), (7, .ref 1007), (56, aB (!(decide (r3_5 = r7_9))))] [(1005, some (.row 3 1 (r3_2.map c_i64))), (1007, some (.row 3 1 (r6_2.map c_i64)))]) mixed [(none, [], .no), (none, [], .len r3_2.length), (none, [], .no), (none, [], .len r6_2.length), (none, [], .no), (none, [], .no), (some false, [], .no), (some false, [], .no), (some false, [], .no), (some false, [], .call [] (aI .i64 r7_9)), (some false, [], .no), (none, [], .dec false)] ⟨[5, 7, 56], [], [], [], [(1005, 1005), (1007, 1007)], [], []⟩ [(r3_2.map c_i64).length = r3_2.length, (r6_2.map c_i64).length = r6_2.length, (!(decide ((r3_2.length : Int) = (r6_2.length : Int)))) = false, (!(decide ((r3_2.length : Int) = (r6_2.length : Int)))) = false, (!(decide ((r3_2.length : Int) = (r6_2.length : Int)))) = false, (!(decide ((r3_2.length : Int) = (r6_2.length : Int)))) = false, R_hindcastref05_Up a0 a1 r7_9, (!(decide ((r3_2.length : Int) = (r6_2.length : Int)))) = false, (!(decide ((r3_2.length : Int) = (r6_2.length : Int)))) = false] (by kernel_rfl) ⟨len_ob, len_ob, (not_t hx10), (not_t hx10), (not_t hx10), (not_t hx10), hr7_9, (not_t hx10), (not_t hx10), trivial⟩ ?_
            refine W_cond (!(decide (r3_5 = r7_9))) (by kernel_rfl) (fun hb11 => ?_) (fun hb11 => ?_)
            · have hx12 : (decide (r3_5 = r7_9)) = false := (bnot_t hb11)
              have h := if_f h hx12
              refine W_seq ?_
              refine W_x (s' := LS.mk 73 [(4, aB false)] []) mixed [(none, [], .no)] ⟨[4], [], [], [], [], [], []⟩ [] (by kernel_rfl) trivial ?_
              refine W_ret ?_
              exact kr [] _ _ (by kernel_rfl) (Option.some.inj h)
            · have hx12 : (decide (r3_5 = r7_9)) = true := (bnot_f hb11)
              have h := if_t h hx12
              refine W_skip ?_
              refine W_seq ?_
              refine W_seq ?_
              refine W_x (s' := LS.mk 73 [(5, .ref 1005), (7, .ref 1007), (58, aI .i64 (r6_2.length : Int)), (59, aI .i64 0)] [(1005, some (.row 3 1 (r3_2.map c_i64))), (1007, some (.row 3 1 (r6_2.map c_i64)))]) mixed [(none, [], .no), (none, [], .len r6_2.length), (none, [], .no)] ⟨[5, 7, 58, 59], [], [], [], [(1005, 1005), (1007, 1007)], [], []⟩ [(r6_2.map c_i64).length = r6_2.length] (by kernel_rfl) ⟨len_ob, trivial⟩ ?_
              refine W_block ?_
              obtain ⟨n, h⟩ := fix_rec h
              exact W_conv (s' := LS.mk 73 [(5, .ref 1005), (7, .ref 1007), (58, aI .i64 (r6_2.length : Int)), (59, aI .i64 0)] [(1005, some (.row 3 1 (r3_2.map c_i64))), (1007, some (.row 3 1 (r6_2.map c_i64)))]) ⟨[5, 7, 58, 59], [], [], [], [(1005, 1005), (1007, 1007)], [], []⟩ (by kernel_rfl) (hindcastlaw05_TreeKids_l1_ok n r6_2 0 r3_2 r_ _ kr (fun q1 hq1  s' h hf => W_pre hf (hindcastlaw05_TreeKids_j2_ok q1 r_ _ kr h)) h)
def R_hindcastlaw05_TreeOnce (a0 : (List GApiNode)) (r : Bool) : Prop := FnP Try.prog 6 [.t (.sl 6 (a0.map c_GApiNode))] (aB r)
inductive hindcastlaw05_TreeOnce_C where
  | j0 
  | l1 (a0 : (List GApiNode)) (v1_22_0 : Int) (w1_1003 : (List Int))
  | l2 (a0 : (List GApiNode)) (v2_4_0 : Int) (v2_22_0 : Int) (r7_2 : (List Int)) (v2_30_0 : Int) (w2_1003 : (List Int))
  | j3 (a0 : (List GApiNode)) (w3_1003 : (List Int))
  | j4 (a0 : (List GApiNode)) (v4_22_0 : Int) (w2_1003 : (List Int))
  | l5 (a0 : (List GApiNode)) (v5_7_0 : Int) (w5_1003 : (List Int))
  | j6 (a0 : (List GApiNode))
abbrev hindcastlaw05_TreeOnce_C_T : hindcastlaw05_TreeOnce_C → Type := fun _ => Bool
noncomputable def hindcastlaw05_TreeOnce_j0_b (g : (i : hindcastlaw05_TreeOnce_C) → Option (hindcastlaw05_TreeOnce_C_T i))  : Option Bool :=
  ((hindcastlaw05_awake).bind fun (r2_0 : Bool) => (some r2_0))
noncomputable def hindcastlaw05_TreeOnce_l1_b (g : (i : hindcastlaw05_TreeOnce_C) → Option (hindcastlaw05_TreeOnce_C_T i)) (a0 : (List GApiNode)) (v1_22_0 : Int) (w1_1003 : (List Int)) : Option Bool :=
  (if v1_22_0 < (a0.length : Int) then ((tree_Kids a0 v1_22_0).bind fun (r7_2 : (List Int)) => g (.l2 a0 v1_22_0 v1_22_0 r7_2 0 w1_1003)) else g (.j3 a0 w1_1003))
noncomputable def hindcastlaw05_TreeOnce_l2_b (g : (i : hindcastlaw05_TreeOnce_C) → Option (hindcastlaw05_TreeOnce_C_T i)) (a0 : (List GApiNode)) (v2_4_0 : Int) (v2_22_0 : Int) (r7_2 : (List Int)) (v2_30_0 : Int) (w2_1003 : (List Int)) : Option Bool :=
  (if v2_30_0 < (r7_2.length : Int) then ((getI r7_2 v2_30_0).bind fun (x11_2 : Int) => (if x11_2 < 1 then (some false) else (if x11_2 ≥ (a0.length : Int) then (some false) else ((getI w2_1003 x11_2).bind fun (x11_20 : Int) => (if x11_20 = 0 then ((tree_Up a0 x11_2).bind fun (r11_30 : Int) => (if r11_30 = v2_4_0 then g (.l2 a0 v2_4_0 v2_22_0 r7_2 (IntKind.wrap .i64 (v2_30_0 + 1)) (w2_1003.set (Int.toNat x11_2) (IntKind.wrap .i64 (v2_4_0 + 1)))) else (some false))) else (some false)))))) else g (.j4 a0 v2_22_0 w2_1003))
noncomputable def hindcastlaw05_TreeOnce_j3_b (g : (i : hindcastlaw05_TreeOnce_C) → Option (hindcastlaw05_TreeOnce_C_T i)) (a0 : (List GApiNode)) (w3_1003 : (List Int)) : Option Bool :=
  g (.l5 a0 1 w3_1003)
noncomputable def hindcastlaw05_TreeOnce_j4_b (g : (i : hindcastlaw05_TreeOnce_C) → Option (hindcastlaw05_TreeOnce_C_T i)) (a0 : (List GApiNode)) (v4_22_0 : Int) (w2_1003 : (List Int)) : Option Bool :=
  g (.l1 a0 (IntKind.wrap .i64 (v4_22_0 + 1)) w2_1003)
noncomputable def hindcastlaw05_TreeOnce_l5_b (g : (i : hindcastlaw05_TreeOnce_C) → Option (hindcastlaw05_TreeOnce_C_T i)) (a0 : (List GApiNode)) (v5_7_0 : Int) (w5_1003 : (List Int)) : Option Bool :=
  (if v5_7_0 < (a0.length : Int) then ((getI w5_1003 v5_7_0).bind fun (x18_2 : Int) => (if x18_2 = 0 then (some false) else g (.l5 a0 (IntKind.wrap .i64 (v5_7_0 + 1)) w5_1003))) else g (.j6 a0))
noncomputable def hindcastlaw05_TreeOnce_j6_b (g : (i : hindcastlaw05_TreeOnce_C) → Option (hindcastlaw05_TreeOnce_C_T i)) (a0 : (List GApiNode)) : Option Bool :=
  ((tree_Up a0 0).bind fun (r21_1 : Int) => (if r21_1 = (-1) then ((hindcastlaw05_awake).bind fun (r21_4 : Bool) => (some r21_4)) else (some false)))
noncomputable def hindcastlaw05_TreeOnce_B (g : (i : hindcastlaw05_TreeOnce_C) → Option (hindcastlaw05_TreeOnce_C_T i)) : (i : hindcastlaw05_TreeOnce_C) → Option (hindcastlaw05_TreeOnce_C_T i)
  | .j0  => hindcastlaw05_TreeOnce_j0_b g 
  | .l1 a0 v1_22_0 w1_1003 => hindcastlaw05_TreeOnce_l1_b g a0 v1_22_0 w1_1003
  | .l2 a0 v2_4_0 v2_22_0 r7_2 v2_30_0 w2_1003 => hindcastlaw05_TreeOnce_l2_b g a0 v2_4_0 v2_22_0 r7_2 v2_30_0 w2_1003
  | .j3 a0 w3_1003 => hindcastlaw05_TreeOnce_j3_b g a0 w3_1003
  | .j4 a0 v4_22_0 w2_1003 => hindcastlaw05_TreeOnce_j4_b g a0 v4_22_0 w2_1003
  | .l5 a0 v5_7_0 w5_1003 => hindcastlaw05_TreeOnce_l5_b g a0 v5_7_0 w5_1003
  | .j6 a0 => hindcastlaw05_TreeOnce_j6_b g a0
theorem hindcastlaw05_TreeOnce_B_fin (i : hindcastlaw05_TreeOnce_C) : Fin1 (fun g => hindcastlaw05_TreeOnce_B g i) := by
  cases i with
  | j0  => show Fin1 (fun g => hindcastlaw05_TreeOnce_j0_b g ); unfold hindcastlaw05_TreeOnce_j0_b; repeat (first | refine fin_bind ?_ (fun _ => ?_) | refine fin_ite ?_ ?_ | exact fin_ask _ | exact fin_const _)
  | l1 a0 v1_22_0 w1_1003 => show Fin1 (fun g => hindcastlaw05_TreeOnce_l1_b g a0 v1_22_0 w1_1003); unfold hindcastlaw05_TreeOnce_l1_b; repeat (first | refine fin_bind ?_ (fun _ => ?_) | refine fin_ite ?_ ?_ | exact fin_ask _ | exact fin_const _)
  | l2 a0 v2_4_0 v2_22_0 r7_2 v2_30_0 w2_1003 => show Fin1 (fun g => hindcastlaw05_TreeOnce_l2_b g a0 v2_4_0 v2_22_0 r7_2 v2_30_0 w2_1003); unfold hindcastlaw05_TreeOnce_l2_b; repeat (first | refine fin_bind ?_ (fun _ => ?_) | refine fin_ite ?_ ?_ | exact fin_ask _ | exact fin_const _)
  | j3 a0 w3_1003 => show Fin1 (fun g => hindcastlaw05_TreeOnce_j3_b g a0 w3_1003); unfold hindcastlaw05_TreeOnce_j3_b; repeat (first | refine fin_bind ?_ (fun _ => ?_) | refine fin_ite ?_ ?_ | exact fin_ask _ | exact fin_const _)
  | j4 a0 v4_22_0 w2_1003 => show Fin1 (fun g => hindcastlaw05_TreeOnce_j4_b g a0 v4_22_0 w2_1003); unfold hindcastlaw05_TreeOnce_j4_b; repeat (first | refine fin_bind ?_ (fun _ => ?_) | refine fin_ite ?_ ?_ | exact fin_ask _ | exact fin_const _)
  | l5 a0 v5_7_0 w5_1003 => show Fin1 (fun g => hindcastlaw05_TreeOnce_l5_b g a0 v5_7_0 w5_1003); unfold hindcastlaw05_TreeOnce_l5_b; repeat (first | refine fin_bind ?_ (fun _ => ?_) | refine fin_ite ?_ ?_ | exact fin_ask _ | exact fin_const _)
  | j6 a0 => show Fin1 (fun g => hindcastlaw05_TreeOnce_j6_b g a0); unfold hindcastlaw05_TreeOnce_j6_b; repeat (first | refine fin_bind ?_ (fun _ => ?_) | refine fin_ite ?_ ?_ | exact fin_ask _ | exact fin_const _)
noncomputable def hindcastlaw05_TreeOnce_j0  : Option Bool := fixD hindcastlaw05_TreeOnce_B (.j0 )
noncomputable def hindcastlaw05_TreeOnce_l1 (a0 : (List GApiNode)) (v1_22_0 : Int) (w1_1003 : (List Int)) : Option Bool := fixD hindcastlaw05_TreeOnce_B (.l1 a0 v1_22_0 w1_1003)
noncomputable def hindcastlaw05_TreeOnce_l2 (a0 : (List GApiNode)) (v2_4_0 : Int) (v2_22_0 : Int) (r7_2 : (List Int)) (v2_30_0 : Int) (w2_1003 : (List Int)) : Option Bool := fixD hindcastlaw05_TreeOnce_B (.l2 a0 v2_4_0 v2_22_0 r7_2 v2_30_0 w2_1003)
noncomputable def hindcastlaw05_TreeOnce_j3 (a0 : (List GApiNode)) (w3_1003 : (List Int)) : Option Bool := fixD hindcastlaw05_TreeOnce_B (.j3 a0 w3_1003)
noncomputable def hindcastlaw05_TreeOnce_j4 (a0 : (List GApiNode)) (v4_22_0 : Int) (w2_1003 : (List Int)) : Option Bool := fixD hindcastlaw05_TreeOnce_B (.j4 a0 v4_22_0 w2_1003)
noncomputable def hindcastlaw05_TreeOnce_l5 (a0 : (List GApiNode)) (v5_7_0 : Int) (w5_1003 : (List Int)) : Option Bool := fixD hindcastlaw05_TreeOnce_B (.l5 a0 v5_7_0 w5_1003)
noncomputable def hindcastlaw05_TreeOnce_j6 (a0 : (List GApiNode)) : Option Bool := fixD hindcastlaw05_TreeOnce_B (.j6 a0)
theorem hindcastlaw05_TreeOnce_j0_eq  : hindcastlaw05_TreeOnce_j0  =
  ((hindcastlaw05_awake).bind fun (r2_0 : Bool) => (some r2_0)) := fix_eq hindcastlaw05_TreeOnce_B_fin _
theorem hindcastlaw05_TreeOnce_l1_eq (a0 : (List GApiNode)) (v1_22_0 : Int) (w1_1003 : (List Int)) : hindcastlaw05_TreeOnce_l1 a0 v1_22_0 w1_1003 =
  (if v1_22_0 < (a0.length : Int) then ((tree_Kids a0 v1_22_0).bind fun (r7_2 : (List Int)) => hindcastlaw05_TreeOnce_l2 a0 v1_22_0 v1_22_0 r7_2 0 w1_1003) else hindcastlaw05_TreeOnce_j3 a0 w1_1003) := fix_eq hindcastlaw05_TreeOnce_B_fin _
theorem hindcastlaw05_TreeOnce_l2_eq (a0 : (List GApiNode)) (v2_4_0 : Int) (v2_22_0 : Int) (r7_2 : (List Int)) (v2_30_0 : Int) (w2_1003 : (List Int)) : hindcastlaw05_TreeOnce_l2 a0 v2_4_0 v2_22_0 r7_2 v2_30_0 w2_1003 =
  (if v2_30_0 < (r7_2.length : Int) then ((getI r7_2 v2_30_0).bind fun (x11_2 : Int) => (if x11_2 < 1 then (some false) else (if x11_2 ≥ (a0.length : Int) then (some false) else ((getI w2_1003 x11_2).bind fun (x11_20 : Int) => (if x11_20 = 0 then ((tree_Up a0 x11_2).bind fun (r11_30 : Int) => (if r11_30 = v2_4_0 then hindcastlaw05_TreeOnce_l2 a0 v2_4_0 v2_22_0 r7_2 (IntKind.wrap .i64 (v2_30_0 + 1)) (w2_1003.set (Int.toNat x11_2) (IntKind.wrap .i64 (v2_4_0 + 1))) else (some false))) else (some false)))))) else hindcastlaw05_TreeOnce_j4 a0 v2_22_0 w2_1003) := fix_eq hindcastlaw05_TreeOnce_B_fin _
theorem hindcastlaw05_TreeOnce_j3_eq (a0 : (List GApiNode)) (w3_1003 : (List Int)) : hindcastlaw05_TreeOnce_j3 a0 w3_1003 =
  hindcastlaw05_TreeOnce_l5 a0 1 w3_1003 := fix_eq hindcastlaw05_TreeOnce_B_fin _
theorem hindcastlaw05_TreeOnce_j4_eq (a0 : (List GApiNode)) (v4_22_0 : Int) (w2_1003 : (List Int)) : hindcastlaw05_TreeOnce_j4 a0 v4_22_0 w2_1003 =
  hindcastlaw05_TreeOnce_l1 a0 (IntKind.wrap .i64 (v4_22_0 + 1)) w2_1003 := fix_eq hindcastlaw05_TreeOnce_B_fin _
theorem hindcastlaw05_TreeOnce_l5_eq (a0 : (List GApiNode)) (v5_7_0 : Int) (w5_1003 : (List Int)) : hindcastlaw05_TreeOnce_l5 a0 v5_7_0 w5_1003 =
  (if v5_7_0 < (a0.length : Int) then ((getI w5_1003 v5_7_0).bind fun (x18_2 : Int) => (if x18_2 = 0 then (some false) else hindcastlaw05_TreeOnce_l5 a0 (IntKind.wrap .i64 (v5_7_0 + 1)) w5_1003)) else hindcastlaw05_TreeOnce_j6 a0) := fix_eq hindcastlaw05_TreeOnce_B_fin _
theorem hindcastlaw05_TreeOnce_j6_eq (a0 : (List GApiNode)) : hindcastlaw05_TreeOnce_j6 a0 =
  ((tree_Up a0 0).bind fun (r21_1 : Int) => (if r21_1 = (-1) then ((hindcastlaw05_awake).bind fun (r21_4 : Bool) => (some r21_4)) else (some false))) := fix_eq hindcastlaw05_TreeOnce_B_fin _
set_option maxRecDepth 100000 in
theorem hindcastlaw05_TreeOnce_j0_ok (n : Nat)   (r_ : Bool) (Q' : Exit → St → Prop) (kr : ∀ (ns : List (Nat × Nat × Nat)) (s : LS) (x : Bool), retX Try.prog ns [.tmp 2] s = some (aB x) → x = r_ → Q' .ret s.st)  (h : recN hindcastlaw05_TreeOnce_B n (.j0 ) = some r_) : W Try.prog (subC (bodyC Try.prog 6) [1, 0, 1, 0]) (LS.mk 94 [] []).st Q' := by
  cases n with
  | zero => cases h
  | succ m =>
  have hlt : m < m + 1 := Nat.lt_succ_self m
  replace h : hindcastlaw05_TreeOnce_j0_b (recN hindcastlaw05_TreeOnce_B m)  = some r_ := h
  unfold hindcastlaw05_TreeOnce_j0_b at h
  refine W_seq ?_
  obtain ⟨r2_0, hr2_0, h⟩ := bind_ok h
  have hr2_0 := hindcastlaw05_awake_ok hr2_0
  refine W_x (s' := LS.mk 94 [(2, aB r2_0)] []) mixed [(none, [], .call [] (aB r2_0)), (none, [], .no)] ⟨[2], [], [], [], [], [], []⟩ [R_hindcastlaw05_awake r2_0] (by kernel_rfl) ⟨hr2_0, trivial⟩ ?_
  refine W_ret ?_
  exact kr [] _ _ (by kernel_rfl) (Option.some.inj h)
set_option maxRecDepth 100000 in
theorem hindcastlaw05_TreeOnce_l2_ok (n : Nat)  (a0 : (List GApiNode)) (v2_4_0 : Int) (v2_22_0 : Int) (r7_2 : (List Int)) (v2_30_0 : Int) (w2_1003 : (List Int)) (r_ : Bool) (Q' : Exit → St → Prop) (kr : ∀ (ns : List (Nat × Nat × Nat)) (s : LS) (x : Bool), retX Try.prog ns [.tmp 2] s = some (aB x) → x = r_ → Q' .ret s.st) (k_x_2 : ∀ (q : Nat), q < n → ∀ (v4_22_0 : Int) (w2_1003 : (List Int)) (s' : LS), recN hindcastlaw05_TreeOnce_B q (.j4 a0 v4_22_0 w2_1003) = some r_ → Fits s'.st (LS.mk 94 [(0, .t (.sl 6 (a0.map c_GApiNode))), (3, .ref 1003), (21, aI .i64 (a0.length : Int)), (22, aI .i64 v4_22_0)] [(1003, some (.row 3 1 (w2_1003.map c_i64)))]).st → Q' (.exit 2) s'.st) (h : recN hindcastlaw05_TreeOnce_B n (.l2 a0 v2_4_0 v2_22_0 r7_2 v2_30_0 w2_1003) = some r_) : W Try.prog (subC (bodyC Try.prog 6) [1, 1, 1, 0, 1, 0, 0, 1, 1, 0, 0, 1, 1, 1, 0]) (LS.mk 94 [(0, .t (.sl 6 (a0.map c_GApiNode))), (3, .ref 1003), (4, aI .i64 v2_4_0), (5, .ref 1005), (21, aI .i64 (a0.length : Int)), (22, aI .i64 v2_22_0), (29, aI .i64 (r7_2.length : Int)), (30, aI .i64 v2_30_0)] [(1003, some (.row 3 1 (w2_1003.map c_i64))), (1005, some (.row 3 1 (r7_2.map c_i64)))]).st Q' := by
  refine W_fix (σ := Int × Int × Int × (List Int)) (fun m x_ => m ≤ n ∧ recN hindcastlaw05_TreeOnce_B m (.l2 a0 x_.1 x_.2.1 r7_2 x_.2.2.1 x_.2.2.2) = some r_) (fun x_ => LS.mk 94 [(0, .t (.sl 6 (a0.map c_GApiNode))), (3, .ref 1003), (4, aI .i64 x_.1), (5, .ref 1005), (21, aI .i64 (a0.length : Int)), (22, aI .i64 x_.2.1), (29, aI .i64 (r7_2.length : Int)), (30, aI .i64 x_.2.2.1)] [(1003, some (.row 3 1 (x_.2.2.2.map c_i64))), (1005, some (.row 3 1 (r7_2.map c_i64)))]) (fun x hx => by cases hx.2) (fun _ _ => rfl) ?_ n (v2_4_0, v2_22_0, v2_30_0, w2_1003) ⟨Nat.le_refl _, h⟩
  clear h
  rintro m ⟨v2_4_0, v2_22_0, v2_30_0, w2_1003⟩ ⟨hlt, h⟩
  replace h : hindcastlaw05_TreeOnce_l2_b (recN hindcastlaw05_TreeOnce_B m) a0 v2_4_0 v2_22_0 r7_2 v2_30_0 w2_1003 = some r_ := h
  unfold hindcastlaw05_TreeOnce_l2_b at h
  refine W_seq ?_
  refine W_x (s' := LS.mk 94 [(0, .t (.sl 6 (a0.map c_GApiNode))), (3, .ref 1003), (4, aI .i64 v2_4_0), (5, .ref 1005), (21, aI .i64 (a0.length : Int)), (22, aI .i64 v2_22_0), (29, aI .i64 (r7_2.length : Int)), (30, aI .i64 v2_30_0), (31, aB (decide (v2_30_0 < (r7_2.length : Int))))] [(1003, some (.row 3 1 (w2_1003.map c_i64))), (1005, some (.row 3 1 (r7_2.map c_i64)))]) mixed [(none, [], .no)] ⟨[0, 3, 4, 5, 21, 22, 29, 30, 31], [], [], [], [(1003, 1003), (1005, 1005)], [], []⟩ [] (by kernel_rfl) trivial ?_
  refine W_seq ?_
  refine W_cond (decide (v2_30_0 < (r7_2.length : Int))) (by kernel_rfl) (fun hb3001 => ?_) (fun hb3001 => ?_)
  · have hx3002 := hb3001
    have h := if_t h hx3002
    refine W_skip ?_
    refine W_seq ?_
    refine W_block ?_
    refine W_seq ?_
    refine W_x (s' := LS.mk 94 [(0, .t (.sl 6 (a0.map c_GApiNode))), (3, .ref 1003), (4, aI .i64 v2_4_0), (5, .ref 1005), (6, aI .i64 v2_30_0), (21, aI .i64 (a0.length : Int)), (22, aI .i64 v2_22_0), (29, aI .i64 (r7_2.length : Int)), (30, aI .i64 v2_30_0)] [(1003, some (.row 3 1 (w2_1003.map c_i64))), (1005, some (.row 3 1 (r7_2.map c_i64)))]) mixed [(none, [], .no), (none, [], .no)] ⟨[0, 3, 4, 5, 6, 21, 22, 29, 30], [], [], [], [(1003, 1003), (1005, 1005)], [], []⟩ [] (by kernel_rfl) trivial ?_
    refine W_seq ?_
    refine W_seq ?_
    obtain ⟨x11_2, hx11_2, h⟩ := bind_ok h
    refine (Bool.eq_false_or_eq_true (decide (x11_2 < 1))).elim (fun hb3003 => ?_) (fun hb3003 => ?_)
    · have hx3004 := hb3003
      have h := if_t h hx3004
      refine W_x (s' := LS.mk 94 [(0, .t (.sl 6 (a0.map c_GApiNode))), (3, .ref 1003), (4, aI .i64 v2_4_0), (5, .ref 1005), (6, aI .i64 v2_30_0), (21, aI .i64 (a0.length : Int)), (22, aI .i64 v2_22_0), (29, aI .i64 (r7_2.length : Int)), (30, aI .i64 v2_30_0), (66, aB true)] [(1003, some (.row 3 1 (w2_1003.map c_i64))), (1005, some (.row 3 1 (r7_2.map c_i64)))]) mixed [(none, [], .no), (none, [], .no), (none, [], .ix (Int.toNat v2_30_0) (c_i64 x11_2)), (none, [], .ix (Int.toNat v2_30_0) (c_i64 x11_2)), (none, [], .no), (none, [], .no), (some true, [], .no), (some true, [], .no), (some true, [], .no), (some true, [], .no), (some true, [], .no), (some true, [], .no), (some true, [], .no), (none, [], .dec true), (none, [], .no), (none, [], .no), (none, [], .no), (none, [], .no), (none, [], .no), (none, [], .no), (none, [], .no), (none, [], .no), (none, [], .no), (none, [], .no), (none, [], .no), (none, [], .no), (none, [], .no), (none, [], .no), (none, [], .no), (none, [], .no), (none, [], .no), (none, [], .no), (none, [], .no), (none, [], .no)] ⟨[0, 3, 4, 5, 6, 21, 22, 29, 30, 66], [], [], [], [(1003, 1003), (1005, 1005)], [], []⟩ [IxOb (r7_2.map c_i64) v2_30_0 (Int.toNat v2_30_0) (c_i64 x11_2), (r7_2.map c_i64)[(Int.toNat v2_30_0)]? = some (c_i64 x11_2), (decide (x11_2 < 1)) = true, (decide (x11_2 < 1)) = true, (decide (x11_2 < 1)) = true, (decide (x11_2 < 1)) = true, (decide (x11_2 < 1)) = true, (decide (x11_2 < 1)) = true, (decide (x11_2 < 1)) = true, (decide (x11_2 < 1)) = true] (by kernel_rfl) ⟨ix_ob hx11_2, el_ob hx11_2, hx3004, hx3004, hx3004, hx3004, hx3004, hx3004, hx3004, hx3004, trivial⟩ ?_
      refine W_cond true (by kernel_rfl) (fun _ => ?_) (fun hb => nomatch ((rfl : true = true).symm.trans hb))
      refine W_seq ?_
      refine W_x (s' := LS.mk 94 [(2, aB false)] []) mixed [(none, [], .no)] ⟨[2], [], [], [], [], [], []⟩ [] (by kernel_rfl) trivial ?_
      refine W_ret ?_
      exact kr [] _ _ (by kernel_rfl) (Option.some.inj h)
    · have hx3004 := hb3003
      have h := if_f h hx3004
      refine (Bool.eq_false_or_eq_true (decide (x11_2 ≥ (a0.length : Int)))).elim (fun hb3005 => ?_) (fun hb3005 => ?_)
      · have hx3006 := hb3005
        have h := if_t h hx3006
        refine W_x (s' := LS.mk 94 [(0, .t (.sl 6 (a0.map c_GApiNode))), (3, .ref 1003), (4, aI .i64 v2_4_0), (5, .ref 1005), (6, aI .i64 v2_30_0), (21, aI .i64 (a0.length : Int)), (22, aI .i64 v2_22_0), (29, aI .i64 (r7_2.length : Int)), (30, aI .i64 v2_30_0), (66, aB true)] [(1003, some (.row 3 1 (w2_1003.map c_i64))), (1005, some (.row 3 1 (r7_2.map c_i64)))]) mixed [(none, [], .no), (none, [], .no), (none, [], .ix (Int.toNat v2_30_0) (c_i64 x11_2)), (none, [], .ix (Int.toNat v2_30_0) (c_i64 x11_2)), (none, [], .no), (none, [], .no), (some false, [], .no), (some false, [], .no), (some false, [], .ix (Int.toNat v2_30_0) (c_i64 x11_2)), (some false, [], .ix (Int.toNat v2_30_0) (c_i64 x11_2)), (some false, [], .no), (some false, [], .len a0.length), (some false, [], .no), (none, [], .dec false), (none, [], .no), (some true, [], .no), (some true, [], .no), (some true, [], .no), (some true, [], .no), (some true, [], .no), (some true, [], .no), (some true, [], .no), (some true, [], .no), (none, [], .dec true), (none, [], .no), (none, [], .no), (none, [], .no), (none, [], .no), (none, [], .no), (none, [], .no), (none, [], .no), (none, [], .no), (none, [], .no), (none, [], .no)] ⟨[0, 3, 4, 5, 6, 21, 22, 29, 30, 66], [], [], [], [(1003, 1003), (1005, 1005)], [], []⟩ [IxOb (r7_2.map c_i64) v2_30_0 (Int.toNat v2_30_0) (c_i64 x11_2), (r7_2.map c_i64)[(Int.toNat v2_30_0)]? = some (c_i64 x11_2), (decide (x11_2 < 1)) = false, (decide (x11_2 < 1)) = false, (decide (x11_2 < 1)) = false, IxOb (r7_2.map c_i64) v2_30_0 (Int.toNat v2_30_0) (c_i64 x11_2), (decide (x11_2 < 1)) = false, (r7_2.map c_i64)[(Int.toNat v2_30_0)]? = some (c_i64 x11_2), (decide (x11_2 < 1)) = false, (decide (x11_2 < 1)) = false, (a0.map c_GApiNode).length = a0.length, (decide (x11_2 < 1)) = false, (decide (x11_2 < 1)) = false, (decide (x11_2 ≥ (a0.length : Int))) = true, (decide (x11_2 ≥ (a0.length : Int))) = true, (decide (x11_2 ≥ (a0.length : Int))) = true, (decide (x11_2 ≥ (a0.length : Int))) = true, (decide (x11_2 ≥ (a0.length : Int))) = true, (decide (x11_2 ≥ (a0.length : Int))) = true, (decide (x11_2 ≥ (a0.length : Int))) = true, (decide (x11_2 ≥ (a0.length : Int))) = true, (decide (x11_2 ≥ (a0.length : Int))) = true] (by kernel_rfl) ⟨ix_ob hx11_2, el_ob hx11_2, hx3004, hx3004, hx3004, ix_ob hx11_2, hx3004, el_ob hx11_2, hx3004, hx3004, len_ob, hx3004, hx3004, hx3006, hx3006, hx3006, hx3006, hx3006, hx3006, hx3006, hx3006, hx3006, trivial⟩ ?_
        refine W_cond true (by kernel_rfl) (fun _ => ?_) (fun hb => nomatch ((rfl : true = true).symm.trans hb))
        refine W_seq ?_
        refine W_x (s' := LS.mk 94 [(2, aB false)] []) mixed [(none, [], .no)] ⟨[2], [], [], [], [], [], []⟩ [] (by kernel_rfl) trivial ?_
        refine W_ret ?_
        exact kr [] _ _ (by kernel_rfl) (Option.some.inj h)
      · have hx3006 := hb3005
        have h := if_f h hx3006
        obtain ⟨x11_20, hx11_20, h⟩ := bind_ok h
        refine (Bool.eq_false_or_eq_true (!(decide (x11_20 = 0)))).elim (fun hb3007 => ?_) (fun hb3007 => ?_)
        · have hx3008 : (decide (x11_20 = 0)) = false := (bnot_t hb3007)
          have h := if_f h hx3008
          refine W_x (s' := LS.mk 94 [(0, .t (.sl 6 (a0.map c_GApiNode))), (3, .ref 1003), (4, aI .i64 v2_4_0), (5, .ref 1005), (6, aI .i64 v2_30_0), (21, aI .i64 (a0.length : Int)), (22, aI .i64 v2_22_0), (29, aI .i64 (r7_2.length : Int)), (30, aI .i64 v2_30_0), (66, aB true)] [(1003, some (.row 3 1 (w2_1003.map c_i64))), (1005, some (.row 3 1 (r7_2.map c_i64)))]) mixed [(none, [], .no), (none, [], .no), (none, [], .ix (Int.toNat v2_30_0) (c_i64 x11_2)), (none, [], .ix (Int.toNat v2_30_0) (c_i64 x11_2)), (none, [], .no), (none, [], .no), (some false, [], .no), (some false, [], .no), (some false, [], .ix (Int.toNat v2_30_0) (c_i64 x11_2)), (some false, [], .ix (Int.toNat v2_30_0) (c_i64 x11_2)), (some false, [], .no), (some false, [], .len a0.length), (some false, [], .no), (none, [], .dec false), (none, [], .no), (some false, [], .no), (some false, [], .no), (some false, [], .no), (some false, [], .ix (Int.toNat v2_30_0) (c_i64 x11_2)), (some false, [], .ix (Int.toNat v2_30_0) (c_i64 x11_2)), (some false, [], .ix (Int.toNat x11_2) (c_i64 x11_20)), (some false, [], .ix (Int.toNat x11_2) (c_i64 x11_20)), (some false, [], .no), (none, [], .dec false), (none, [], .no), (some true, [], .no), (some true, [], .no), (some true, [], .no), (some true, [], .no), (some true, [], .no), (some true, [], .no), (some true, [], .no), (some true, [], .no), (none, [], .dec true)] ⟨[0, 3, 4, 5, 6, 21, 22, 29, 30, 66], [], [], [], [(1003, 1003), (1005, 1005)], [], []⟩ [IxOb (r7_2.map c_i64) v2_30_0 (Int.toNat v2_30_0) (c_i64 x11_2), (r7_2.map c_i64)[(Int.toNat v2_30_0)]? = some (c_i64 x11_2), (decide (x11_2 < 1)) = false, (decide (x11_2 < 1)) = false, (decide (x11_2 < 1)) = false, IxOb (r7_2.map c_i64) v2_30_0 (Int.toNat v2_30_0) (c_i64 x11_2), (decide (x11_2 < 1)) = false, (r7_2.map c_i64)[(Int.toNat v2_30_0)]? = some (c_i64 x11_2), (decide (x11_2 < 1)) = false, (decide (x11_2 < 1)) = false, (a0.map c_GApiNode).length = a0.length, (decide (x11_2 < 1)) = false, (decide (x11_2 < 1)) = false, (decide (x11_2 ≥ (a0.length : Int))) = false, (decide (x11_2 ≥ (a0.length : Int))) = false, (decide (x11_2 ≥ (a0.length : Int))) = false, (decide (x11_2 ≥ (a0.length : Int))) = false, IxOb (r7_2.map c_i64) v2_30_0 (Int.toNat v2_30_0) (c_i64 x11_2), (decide (x11_2 ≥ (a0.length : Int))) = false, (r7_2.map c_i64)[(Int.toNat v2_30_0)]? = some (c_i64 x11_2), (decide (x11_2 ≥ (a0.length : Int))) = false, IxOb (w2_1003.map c_i64) x11_2 (Int.toNat x11_2) (c_i64 x11_20), (decide (x11_2 ≥ (a0.length : Int))) = false, (w2_1003.map c_i64)[(Int.toNat x11_2)]? = some (c_i64 x11_20), (decide (x11_2 ≥ (a0.length : Int))) = false, (decide (x11_2 ≥ (a0.length : Int))) = false, (!(decide (x11_20 = 0))) = true, (!(decide (x11_20 = 0))) = true, (!(decide (x11_20 = 0))) = true, (!(decide (x11_20 = 0))) = true, (!(decide (x11_20 = 0))) = true, (!(decide (x11_20 = 0))) = true, (!(decide (x11_20 = 0))) = true, (!(decide (x11_20 = 0))) = true, (!(decide (x11_20 = 0))) = true] (by kernel_rfl) ⟨ix_ob hx11_2, el_ob hx11_2, hx3004, hx3004, hx3004, ix_ob hx11_2, hx3004, el_ob hx11_2, hx3004, hx3004, len_ob, hx3004, hx3004, hx3006, hx3006, hx3006, hx3006, ix_ob hx11_2, hx3006, el_ob hx11_2, hx3006, ix_ob hx11_20, hx3006, el_ob hx11_20, hx3006, hx3006, (not_f hx3008), (not_f hx3008), (not_f hx3008), (not_f hx3008), (not_f hx3008), (not_f hx3008), (not_f hx3008), (not_f hx3008), (not_f hx3008), trivial⟩ ?_
          refine W_cond true (by kernel_rfl) (fun _ => ?_) (fun hb => nomatch ((rfl : true = true).symm.trans hb))
          refine W_seq ?_
          refine W_x (s' := LS.mk 94 [(2, aB false)] []) mixed [(none, [], .no)] ⟨[2], [], [], [], [], [], []⟩ [] (by kernel_rfl) trivial ?_
          refine W_ret ?_
          exact kr [] _ _ (by kernel_rfl) (Option.some.inj h)
        · have hx3008 : (decide (x11_20 = 0)) = true := (bnot_f hb3007)
          have h := if_t h hx3008
          obtain ⟨r11_30, hr11_30, h⟩ := bind_ok h
          have hr11_30 := tree_Up_ok hr11_30
          refine W_x (s' := LS.mk 94 [(0, .t (.sl 6 (a0.map c_GApiNode))), (3, .ref 1003), (4, aI .i64 v2_4_0), (5, .ref 1005), (6, aI .i64 v2_30_0), (21, aI .i64 (a0.length : Int)), (22, aI .i64 v2_22_0), (29, aI .i64 (r7_2.length : Int)), (30, aI .i64 v2_30_0), (66, aB (!(decide (r11_30 = v2_4_0))))] [(1003, some (.row 3 1 (w2_1003.map c_i64))), (1005, some (.row 3 1 (r7_2.map c_i64)))]) mixed [(none, [], .no), (none, [], .no), (none, [], .ix (Int.toNat v2_30_0) (c_i64 x11_2)), (none, [], .ix (Int.toNat v2_30_0) (c_i64 x11_2)), (none, [], .no), (none, [], .no), (some false, [], .no), (some false, [], .no), (some false, [], .ix (Int.toNat v2_30_0) (c_i64 x11_2)), (some false, [], .ix (Int.toNat v2_30_0) (c_i64 x11_2)), (some false, [], .no), (some false, [], .len a0.length), (some false, [], .no), (none, [], .dec false), (none, [], .no), (some false, [], .no), (some false, [], .no), (some false, [], .no), (some false, [], .ix (Int.toNat v2_30_0) (c_i64 x11_2)), (some false, [], .ix (Int.toNat v2_30_0) (c_i64 x11_2)), (some false, [], .ix (Int.toNat x11_2) (c_i64 x11_20)), (some false, [], .ix (Int.toNat x11_2) (c_i64 x11_20)), (some false, [], .no), (none, [], .dec false), (none, [], .no), (some false, [], .no), (some false, [], .no), (some false, [], .no), (some false, [], .ix (Int.toNat v2_30_0) (c_i64 x11_2)), (some false, [], .ix (Int.toNat v2_30_0) (c_i64 x11_2)), (some false, [], .call [] (aI .i64 r11_30)), (some false, [], .no), (some false, [], .no), (none, [], .dec false)] ⟨[0, 3, 4, 5, 6, 21, 22, 29, 30, 66], [], [], [], [(1003, 1003), (1005, 1005)], [], []⟩ [IxOb (r7_2.map c_i64) v2_30_0 (Int.toNat v2_30_0) (c_i64 x11_2), (r7_2.map c_i64)[(Int.toNat v2_30_0)]? = some (c_i64 x11_2), (decide (x11_2 < 1)) = false, (decide (x11_2 < 1)) = false, (decide (x11_2 < 1)) = false, IxOb (r7_2.map c_i64) v2_30_0 (Int.toNat v2_30_0) (c_i64 x11_2), (decide (x11_2 < 1)) = false, (r7_2.map c_i64)[(Int.toNat v2_30_0)]? = some (c_i64 x11_2), (decide (x11_2 < 1)) = false, (decide (x11_2 < 1)) = false, (a0.map c_GApiNode).length = a0.length, (decide (x11_2 < 1)) = false, (decide (x11_2 < 1)) = false, (decide (x11_2 ≥ (a0.length : Int))) = false, (decide (x11_2 ≥ (a0.length : Int))) = false, (decide (x11_2 ≥ (a0.length : Int))) = false, (decide (x11_2 ≥ (a0.length : Int))) = false, IxOb (r7_2.map c_i64) v2_30_0 (Int.toNat v2_30_0) (c_i64 x11_2), (decide (x11_2 ≥ (a0.length : Int))) = false, (r7_2.map c_i64)[(Int.toNat v2_30_0)]? = some (c_i64 x11_2), (decide (x11_2 ≥ (a0.length : Int))) = false, IxOb (w2_1003.map c_i64) x11_2 (Int.toNat x11_2) (c_i64 x11_20), (decide (x11_2 ≥ (a0.length : Int))) = false, (w2_1003.map c_i64)[(Int.toNat x11_2)]? = some (c_i64 x11_20), (decide (x11_2 ≥ (a0.length : Int))) = false, (decide (x11_2 ≥ (a0.length : Int))) = false, (!(decide (x11_20 = 0))) = false, (!(decide (x11_20 = 0))) = false, (!(decide (x11_20 = 0))) = false, (!(decide (x11_20 = 0))) = false, IxOb (r7_2.map c_i64) v2_30_0 (Int.toNat v2_30_0) (c_i64 x11_2), (!(decide (x11_20 = 0))) = false, (r7_2.map c_i64)[(Int.toNat v2_30_0)]? = some (c_i64 x11_2), (!(decide (x11_20 = 0))) = false, R_tree_Up a0 x11_2 r11_30, (!(decide (x11_20 = 0))) = false, (!(decide (x11_20 = 0))) = false, (!(decide (x11_20 = 0))) = false] (by kernel_rfl) ⟨ix_ob hx11_2, el_ob hx11_2, hx3004, hx3004, hx3004, ix_ob hx11_2, hx3004, el_ob hx11_2, hx3004, hx3004, len_ob, hx3004, hx3004, hx3006, hx3006, hx3006, hx3006, ix_ob hx11_2, hx3006, el_ob hx11_2, hx3006, ix_ob hx11_20, hx3006, el_ob hx11_20, hx3006, hx3006, (not_t hx3008), (not_t hx3008), (not_t hx3008), (not_t hx3008), ix_ob hx11_2, (not_t hx3008), el_ob hx11_2, (not_t hx3008), hr11_30, (not_t hx3008), (not_t hx3008), (not_t hx3008), trivial⟩ ?_
          refine W_cond (!(decide (r11_30 = v2_4_0))) (by kernel_rfl) (fun hb3009 => ?_) (fun hb3009 => ?_)
          · have hx3010 : (decide (r11_30 = v2_4_0)) = false := (bnot_t hb3009)
            have h := if_f h hx3010
            refine W_seq ?_
            refine W_x (s' := LS.mk 94 [(2, aB false)] []) mixed [(none, [], .no)] ⟨[2], [], [], [], [], [], []⟩ [] (by kernel_rfl) trivial ?_
            refine W_ret ?_
            exact kr [] _ _ (by kernel_rfl) (Option.some.inj h)
          · have hx3010 : (decide (r11_30 = v2_4_0)) = true := (bnot_f hb3009)
            have h := if_t h hx3010
            refine W_skip ?_
            have hx3011 := getI_set hx11_20 (IntKind.wrap .i64 (v2_4_0 + 1))
            refine W_x (s' := LS.mk 94 [(0, .t (.sl 6 (a0.map c_GApiNode))), (3, .ref 1003), (4, aI .i64 v2_4_0), (5, .ref 1005), (21, aI .i64 (a0.length : Int)), (22, aI .i64 v2_22_0), (29, aI .i64 (r7_2.length : Int)), (30, aI .i64 v2_30_0)] [(1003, some (.row 3 1 ((w2_1003.set (Int.toNat x11_2) (IntKind.wrap .i64 (v2_4_0 + 1))).map c_i64))), (1005, some (.row 3 1 (r7_2.map c_i64)))]) mixed [(none, [], .no), (none, [], .no), (none, [], .no), (none, [], .ix (Int.toNat v2_30_0) (c_i64 x11_2)), (none, [], .ix (Int.toNat v2_30_0) (c_i64 x11_2)), (none, [], .no), (none, [], .no), (none, [], .ix (Int.toNat x11_2) (c_i64 x11_20)), (none, [], .set (c_i64 x11_20) ((w2_1003.set (Int.toNat x11_2) (IntKind.wrap .i64 (v2_4_0 + 1))).map c_i64))] ⟨[0, 3, 4, 5, 21, 22, 29, 30], [], [], [], [(1003, 1003), (1005, 1005)], [], []⟩ [IxOb (r7_2.map c_i64) v2_30_0 (Int.toNat v2_30_0) (c_i64 x11_2), (r7_2.map c_i64)[(Int.toNat v2_30_0)]? = some (c_i64 x11_2), IxOb (w2_1003.map c_i64) x11_2 (Int.toNat x11_2) (c_i64 x11_20), (w2_1003.map c_i64)[(Int.toNat x11_2)]? = some (c_i64 x11_20), RowOb ((w2_1003.map c_i64).set (Int.toNat x11_2) (c_i64 (IntKind.wrap .i64 (v2_4_0 + 1)))) ((w2_1003.set (Int.toNat x11_2) (IntKind.wrap .i64 (v2_4_0 + 1))).map c_i64)] (by kernel_rfl) ⟨ix_ob hx11_2, el_ob hx11_2, ix_ob hx11_20, el_ob hx11_20, set_ob _, trivial⟩ ?_
            refine W_x (s' := LS.mk 94 [(0, .t (.sl 6 (a0.map c_GApiNode))), (3, .ref 1003), (4, aI .i64 v2_4_0), (5, .ref 1005), (21, aI .i64 (a0.length : Int)), (22, aI .i64 v2_22_0), (29, aI .i64 (r7_2.length : Int)), (30, aI .i64 (IntKind.wrap .i64 (v2_30_0 + 1)))] [(1003, some (.row 3 1 ((w2_1003.set (Int.toNat x11_2) (IntKind.wrap .i64 (v2_4_0 + 1))).map c_i64))), (1005, some (.row 3 1 (r7_2.map c_i64)))]) mixed [(none, [], .no), (none, [], .no)] ⟨[0, 3, 4, 5, 21, 22, 29, 30], [], [], [], [(1003, 1003), (1005, 1005)], [], []⟩ [] (by kernel_rfl) trivial ?_
            exact ⟨m, (v2_4_0, v2_22_0, (IntKind.wrap .i64 (v2_30_0 + 1)), (w2_1003.set (Int.toNat x11_2) (IntKind.wrap .i64 (v2_4_0 + 1)))), Nat.le_refl _, ⟨Nat.le_of_lt hlt, h⟩, convX_fits (v := ⟨[0, 3, 4, 5, 21, 22, 29, 30], [], [], [], [(1003, 1003), (1005, 1005)], [], []⟩) (s' := LS.mk 94 [(0, .t (.sl 6 (a0.map c_GApiNode))), (3, .ref 1003), (4, aI .i64 v2_4_0), (5, .ref 1005), (21, aI .i64 (a0.length : Int)), (22, aI .i64 v2_22_0), (29, aI .i64 (r7_2.length : Int)), (30, aI .i64 (IntKind.wrap .i64 (v2_30_0 + 1)))] [(1003, some (.row 3 1 ((w2_1003.set (Int.toNat x11_2) (IntKind.wrap .i64 (v2_4_0 + 1))).map c_i64))), (1005, some (.row 3 1 (r7_2.map c_i64)))]) (by kernel_rfl)⟩
  · have hx3002 := hb3001
    have h := if_f h hx3002
    refine W_exit ?_
    exact k_x_2 m hlt v2_22_0 w2_1003 _ h (convX_fits (v := ⟨[0, 3, 21, 22], [], [], [], [(1003, 1003)], [], []⟩) (s' := LS.mk 94 [(0, .t (.sl 6 (a0.map c_GApiNode))), (3, .ref 1003), (21, aI .i64 (a0.length : Int)), (22, aI .i64 v2_22_0)] [(1003, some (.row 3 1 (w2_1003.map c_i64)))]) (by kernel_rfl))
set_option maxRecDepth 100000 in
theorem hindcastlaw05_TreeOnce_j4_ok (n : Nat)  (a0 : (List GApiNode)) (v4_22_0 : Int) (w2_1003 : (List Int)) (r_ : Bool) (Q' : Exit → St → Prop) (kr : ∀ (ns : List (Nat × Nat × Nat)) (s : LS) (x : Bool), retX Try.prog ns [.tmp 2] s = some (aB x) → x = r_ → Q' .ret s.st) (k_n : ∀ (q : Nat), q < n → ∀ (v1_22_0 : Int) (w1_1003 : (List Int)) (s' : LS), recN hindcastlaw05_TreeOnce_B q (.l1 a0 v1_22_0 w1_1003) = some r_ → Fits s'.st (LS.mk 94 [(0, .t (.sl 6 (a0.map c_GApiNode))), (3, .ref 1003), (21, aI .i64 (a0.length : Int)), (22, aI .i64 v1_22_0)] [(1003, some (.row 3 1 (w1_1003.map c_i64)))]).st → Q' .normal s'.st) (h : recN hindcastlaw05_TreeOnce_B n (.j4 a0 v4_22_0 w2_1003) = some r_) : W Try.prog (subC (bodyC Try.prog 6) [1, 1, 1, 0, 1, 0, 0, 1, 1, 1]) (LS.mk 94 [(0, .t (.sl 6 (a0.map c_GApiNode))), (3, .ref 1003), (21, aI .i64 (a0.length : Int)), (22, aI .i64 v4_22_0)] [(1003, some (.row 3 1 (w2_1003.map c_i64)))]).st Q' := by
  cases n with
  | zero => cases h
  | succ m =>
  have hlt : m < m + 1 := Nat.lt_succ_self m
  replace h : hindcastlaw05_TreeOnce_j4_b (recN hindcastlaw05_TreeOnce_B m) a0 v4_22_0 w2_1003 = some r_ := h
  unfold hindcastlaw05_TreeOnce_j4_b at h
  refine W_x (s' := LS.mk 94 [(0, .t (.sl 6 (a0.map c_GApiNode))), (3, .ref 1003), (21, aI .i64 (a0.length : Int)), (22, aI .i64 (IntKind.wrap .i64 (v4_22_0 + 1)))] [(1003, some (.row 3 1 (w2_1003.map c_i64)))]) mixed [(none, [], .no), (none, [], .no)] ⟨[0, 3, 21, 22], [], [], [], [(1003, 1003)], [], []⟩ [] (by kernel_rfl) trivial ?_
  exact k_n m hlt (IntKind.wrap .i64 (v4_22_0 + 1)) w2_1003 _ h (convX_fits (v := ⟨[0, 3, 21, 22], [], [], [], [(1003, 1003)], [], []⟩) (s' := LS.mk 94 [(0, .t (.sl 6 (a0.map c_GApiNode))), (3, .ref 1003), (21, aI .i64 (a0.length : Int)), (22, aI .i64 (IntKind.wrap .i64 (v4_22_0 + 1)))] [(1003, some (.row 3 1 (w2_1003.map c_i64)))]) (by kernel_rfl))
set_option maxRecDepth 100000 in
theorem hindcastlaw05_TreeOnce_l5_ok (n : Nat)  (a0 : (List GApiNode)) (v5_7_0 : Int) (w5_1003 : (List Int)) (r_ : Bool) (Q' : Exit → St → Prop) (kr : ∀ (ns : List (Nat × Nat × Nat)) (s : LS) (x : Bool), retX Try.prog ns [.tmp 2] s = some (aB x) → x = r_ → Q' .ret s.st) (k_x_4 : ∀ (q : Nat), q < n → ∀  (s' : LS), recN hindcastlaw05_TreeOnce_B q (.j6 a0) = some r_ → Fits s'.st (LS.mk 94 [(0, .t (.sl 6 (a0.map c_GApiNode)))] []).st → Q' (.exit 4) s'.st) (h : recN hindcastlaw05_TreeOnce_B n (.l5 a0 v5_7_0 w5_1003) = some r_) : W Try.prog (subC (bodyC Try.prog 6) [1, 1, 1, 1, 0, 1, 0]) (LS.mk 94 [(0, .t (.sl 6 (a0.map c_GApiNode))), (3, .ref 1003), (7, aI .i64 v5_7_0)] [(1003, some (.row 3 1 (w5_1003.map c_i64)))]).st Q' := by
  refine W_fix (σ := Int × (List Int)) (fun m x_ => m ≤ n ∧ recN hindcastlaw05_TreeOnce_B m (.l5 a0 x_.1 x_.2) = some r_) (fun x_ => LS.mk 94 [(0, .t (.sl 6 (a0.map c_GApiNode))), (3, .ref 1003), (7, aI .i64 x_.1)] [(1003, some (.row 3 1 (x_.2.map c_i64)))]) (fun x hx => by cases hx.2) (fun _ _ => rfl) ?_ n (v5_7_0, w5_1003) ⟨Nat.le_refl _, h⟩
  clear h
  rintro m ⟨v5_7_0, w5_1003⟩ ⟨hlt, h⟩
  replace h : hindcastlaw05_TreeOnce_l5_b (recN hindcastlaw05_TreeOnce_B m) a0 v5_7_0 w5_1003 = some r_ := h
  unfold hindcastlaw05_TreeOnce_l5_b at h
  refine W_seq ?_
  refine W_seq ?_
  refine W_x (s' := LS.mk 94 [(0, .t (.sl 6 (a0.map c_GApiNode))), (3, .ref 1003), (7, aI .i64 v5_7_0), (80, aB (decide (v5_7_0 < (a0.length : Int))))] [(1003, some (.row 3 1 (w5_1003.map c_i64)))]) mixed [(none, [], .no), (none, [], .no), (none, [], .len a0.length), (none, [], .no)] ⟨[0, 3, 7, 80], [], [], [], [(1003, 1003)], [], []⟩ [(a0.map c_GApiNode).length = a0.length] (by kernel_rfl) ⟨len_ob, trivial⟩ ?_
  refine W_cond (decide (v5_7_0 < (a0.length : Int))) (by kernel_rfl) (fun hb6001 => ?_) (fun hb6001 => ?_)
  · have hx6002 := hb6001
    have h := if_t h hx6002
    refine W_skip ?_
    refine W_seq ?_
    refine W_block ?_
    refine W_seq ?_
    obtain ⟨x18_2, hx18_2, h⟩ := bind_ok h
    refine W_x (s' := LS.mk 94 [(0, .t (.sl 6 (a0.map c_GApiNode))), (3, .ref 1003), (7, aI .i64 v5_7_0), (87, aB (decide (x18_2 = 0)))] [(1003, some (.row 3 1 (w5_1003.map c_i64)))]) mixed [(none, [], .no), (none, [], .no), (none, [], .ix (Int.toNat v5_7_0) (c_i64 x18_2)), (none, [], .ix (Int.toNat v5_7_0) (c_i64 x18_2)), (none, [], .no)] ⟨[0, 3, 7, 87], [], [], [], [(1003, 1003)], [], []⟩ [IxOb (w5_1003.map c_i64) v5_7_0 (Int.toNat v5_7_0) (c_i64 x18_2), (w5_1003.map c_i64)[(Int.toNat v5_7_0)]? = some (c_i64 x18_2)] (by kernel_rfl) ⟨ix_ob hx18_2, el_ob hx18_2, trivial⟩ ?_
    refine W_cond (decide (x18_2 = 0)) (by kernel_rfl) (fun hb6003 => ?_) (fun hb6003 => ?_)
    · have hx6004 := hb6003
      have h := if_t h hx6004
      refine W_seq ?_
      refine W_x (s' := LS.mk 94 [(2, aB false)] []) mixed [(none, [], .no)] ⟨[2], [], [], [], [], [], []⟩ [] (by kernel_rfl) trivial ?_
      refine W_ret ?_
      exact kr [] _ _ (by kernel_rfl) (Option.some.inj h)
    · have hx6004 := hb6003
      have h := if_f h hx6004
      refine W_skip ?_
      refine W_x (s' := LS.mk 94 [(0, .t (.sl 6 (a0.map c_GApiNode))), (3, .ref 1003), (7, aI .i64 (IntKind.wrap .i64 (v5_7_0 + 1)))] [(1003, some (.row 3 1 (w5_1003.map c_i64)))]) mixed [(none, [], .no), (none, [], .no), (none, [], .no)] ⟨[0, 3, 7], [], [], [], [(1003, 1003)], [], []⟩ [] (by kernel_rfl) trivial ?_
      exact ⟨m, ((IntKind.wrap .i64 (v5_7_0 + 1)), w5_1003), Nat.le_refl _, ⟨Nat.le_of_lt hlt, h⟩, convX_fits (v := ⟨[0, 3, 7], [], [], [], [(1003, 1003)], [], []⟩) (s' := LS.mk 94 [(0, .t (.sl 6 (a0.map c_GApiNode))), (3, .ref 1003), (7, aI .i64 (IntKind.wrap .i64 (v5_7_0 + 1)))] [(1003, some (.row 3 1 (w5_1003.map c_i64)))]) (by kernel_rfl)⟩
  · have hx6002 := hb6001
    have h := if_f h hx6002
    refine W_exit ?_
    exact k_x_4 m hlt  _ h (convX_fits (v := ⟨[0], [], [], [], [], [], []⟩) (s' := LS.mk 94 [(0, .t (.sl 6 (a0.map c_GApiNode)))] []) (by kernel_rfl))
set_option maxRecDepth 100000 in
theorem hindcastlaw05_TreeOnce_j6_ok (n : Nat)  (a0 : (List GApiNode)) (r_ : Bool) (Q' : Exit → St → Prop) (kr : ∀ (ns : List (Nat × Nat × Nat)) (s : LS) (x : Bool), retX Try.prog ns [.tmp 2] s = some (aB x) → x = r_ → Q' .ret s.st)  (h : recN hindcastlaw05_TreeOnce_B n (.j6 a0) = some r_) : W Try.prog (subC (bodyC Try.prog 6) [1, 1, 1, 1, 1]) (LS.mk 94 [(0, .t (.sl 6 (a0.map c_GApiNode)))] []).st Q' := by
  cases n with
  | zero => cases h
  | succ m =>
  have hlt : m < m + 1 := Nat.lt_succ_self m
  replace h : hindcastlaw05_TreeOnce_j6_b (recN hindcastlaw05_TreeOnce_B m) a0 = some r_ := h
  unfold hindcastlaw05_TreeOnce_j6_b at h
  refine W_seq ?_
  obtain ⟨r21_1, hr21_1, h⟩ := bind_ok h
  have hr21_1 := tree_Up_ok hr21_1
  refine (Bool.eq_false_or_eq_true (decide (r21_1 = (-1)))).elim (fun hb7001 => ?_) (fun hb7001 => ?_)
  · have hx7002 := hb7001
    have h := if_t h hx7002
    obtain ⟨r21_4, hr21_4, h⟩ := bind_ok h
    have hr21_4 := hindcastlaw05_awake_ok hr21_4
    refine W_x (s' := LS.mk 94 [(2, aB r21_4)] []) mixed [(none, [], .no), (none, [], .call [] (aI .i64 r21_1)), (none, [], .no), (none, [], .no), (some true, [], .call [] (aB r21_4)), (none, [], .dec true), (none, [], .no)] ⟨[2], [], [], [], [], [], []⟩ [R_tree_Up a0 0 r21_1, (decide (r21_1 = (-1))) = true, R_hindcastlaw05_awake r21_4, (decide (r21_1 = (-1))) = true] (by kernel_rfl) ⟨hr21_1, hx7002, hr21_4, hx7002, trivial⟩ ?_
    refine W_ret ?_
    exact kr [] _ _ (by kernel_rfl) (Option.some.inj h)
  · have hx7002 := hb7001
    have h := if_f h hx7002
    refine W_x (s' := LS.mk 94 [(2, aB false)] []) mixed [(none, [], .no), (none, [], .call [] (aI .i64 r21_1)), (none, [], .no), (none, [], .no), (some false, [], .no), (none, [], .dec false), (none, [], .no)] ⟨[2], [], [], [], [], [], []⟩ [R_tree_Up a0 0 r21_1, (decide (r21_1 = (-1))) = false, (decide (r21_1 = (-1))) = false] (by kernel_rfl) ⟨hr21_1, hx7002, hx7002, trivial⟩ ?_
    refine W_ret ?_
    exact kr [] _ _ (by kernel_rfl) (Option.some.inj h)
set_option maxRecDepth 100000 in
theorem hindcastlaw05_TreeOnce_l1_ok (n : Nat)  (a0 : (List GApiNode)) (v1_22_0 : Int) (w1_1003 : (List Int)) (r_ : Bool) (Q' : Exit → St → Prop) (kr : ∀ (ns : List (Nat × Nat × Nat)) (s : LS) (x : Bool), retX Try.prog ns [.tmp 2] s = some (aB x) → x = r_ → Q' .ret s.st) (k_x_0 : ∀ (q : Nat), q < n → ∀ (w3_1003 : (List Int)) (s' : LS), recN hindcastlaw05_TreeOnce_B q (.j3 a0 w3_1003) = some r_ → Fits s'.st (LS.mk 94 [(0, .t (.sl 6 (a0.map c_GApiNode))), (3, .ref 1003)] [(1003, some (.row 3 1 (w3_1003.map c_i64)))]).st → Q' (.exit 0) s'.st) (h : recN hindcastlaw05_TreeOnce_B n (.l1 a0 v1_22_0 w1_1003) = some r_) : W Try.prog (subC (bodyC Try.prog 6) [1, 1, 1, 0, 1, 0]) (LS.mk 94 [(0, .t (.sl 6 (a0.map c_GApiNode))), (3, .ref 1003), (21, aI .i64 (a0.length : Int)), (22, aI .i64 v1_22_0)] [(1003, some (.row 3 1 (w1_1003.map c_i64)))]).st Q' := by
  refine W_fix (σ := Int × (List Int)) (fun m x_ => m ≤ n ∧ recN hindcastlaw05_TreeOnce_B m (.l1 a0 x_.1 x_.2) = some r_) (fun x_ => LS.mk 94 [(0, .t (.sl 6 (a0.map c_GApiNode))), (3, .ref 1003), (21, aI .i64 (a0.length : Int)), (22, aI .i64 x_.1)] [(1003, some (.row 3 1 (x_.2.map c_i64)))]) (fun x hx => by cases hx.2) (fun _ _ => rfl) ?_ n (v1_22_0, w1_1003) ⟨Nat.le_refl _, h⟩
  clear h
  rintro m ⟨v1_22_0, w1_1003⟩ ⟨hlt, h⟩
  replace h : hindcastlaw05_TreeOnce_l1_b (recN hindcastlaw05_TreeOnce_B m) a0 v1_22_0 w1_1003 = some r_ := h
  unfold hindcastlaw05_TreeOnce_l1_b at h
  refine W_seq ?_
  refine W_x (s' := LS.mk 94 [(0, .t (.sl 6 (a0.map c_GApiNode))), (3, .ref 1003), (21, aI .i64 (a0.length : Int)), (22, aI .i64 v1_22_0), (23, aB (decide (v1_22_0 < (a0.length : Int))))] [(1003, some (.row 3 1 (w1_1003.map c_i64)))]) mixed [(none, [], .no)] ⟨[0, 3, 21, 22, 23], [], [], [], [(1003, 1003)], [], []⟩ [] (by kernel_rfl) trivial ?_
  refine W_seq ?_
  refine W_cond (decide (v1_22_0 < (a0.length : Int))) (by kernel_rfl) (fun hb2001 => ?_) (fun hb2001 => ?_)
  · have hx2002 := hb2001
    have h := if_t h hx2002
    refine W_skip ?_
    refine W_seq ?_
    refine W_block ?_
    refine W_seq ?_
    refine W_x (s' := LS.mk 94 [(0, .t (.sl 6 (a0.map c_GApiNode))), (3, .ref 1003), (4, aI .i64 v1_22_0), (21, aI .i64 (a0.length : Int)), (22, aI .i64 v1_22_0)] [(1003, some (.row 3 1 (w1_1003.map c_i64)))]) mixed [(none, [], .no), (none, [], .no)] ⟨[0, 3, 4, 21, 22], [], [], [], [(1003, 1003)], [], []⟩ [] (by kernel_rfl) trivial ?_
    refine W_seq ?_
    obtain ⟨r7_2, hr7_2, h⟩ := bind_ok h
    have hr7_2 := tree_Kids_ok hr7_2
    refine W_x (s' := LS.mk 94 [(0, .t (.sl 6 (a0.map c_GApiNode))), (3, .ref 1003), (4, aI .i64 v1_22_0), (5, .ref 1005), (21, aI .i64 (a0.length : Int)), (22, aI .i64 v1_22_0)] [(1005, some (.row 3 1 (r7_2.map c_i64))), (1003, some (.row 3 1 (w1_1003.map c_i64)))]) mixed [(none, [], .no), (none, [], .no), (none, [], .io ⟨[], [], [], [], [], [], [(800000, 27)]⟩ (.ref 800000) [(800000, .row 3 1 (r7_2.map c_i64))]), (none, [], .no)] ⟨[0, 3, 4, 5, 21, 22], [], [], [], [(27, 1005), (1003, 1003)], [], []⟩ [RI_tree_Kids a0 v1_22_0 r7_2] (by kernel_rfl) ⟨hr7_2, trivial⟩ ?_
    refine W_seq ?_
    refine W_x (s' := LS.mk 94 [(0, .t (.sl 6 (a0.map c_GApiNode))), (3, .ref 1003), (4, aI .i64 v1_22_0), (5, .ref 1005), (21, aI .i64 (a0.length : Int)), (22, aI .i64 v1_22_0), (29, aI .i64 (r7_2.length : Int)), (30, aI .i64 0)] [(1003, some (.row 3 1 (w1_1003.map c_i64))), (1005, some (.row 3 1 (r7_2.map c_i64)))]) mixed [(none, [], .no), (none, [], .len r7_2.length), (none, [], .no)] ⟨[0, 3, 4, 5, 21, 22, 29, 30], [], [], [], [(1003, 1003), (1005, 1005)], [], []⟩ [(r7_2.map c_i64).length = r7_2.length] (by kernel_rfl) ⟨len_ob, trivial⟩ ?_
    refine W_block ?_
    exact W_conv (s' := LS.mk 94 [(0, .t (.sl 6 (a0.map c_GApiNode))), (3, .ref 1003), (4, aI .i64 v1_22_0), (5, .ref 1005), (21, aI .i64 (a0.length : Int)), (22, aI .i64 v1_22_0), (29, aI .i64 (r7_2.length : Int)), (30, aI .i64 0)] [(1003, some (.row 3 1 (w1_1003.map c_i64))), (1005, some (.row 3 1 (r7_2.map c_i64)))]) ⟨[0, 3, 4, 5, 21, 22, 29, 30], [], [], [], [(1003, 1003), (1005, 1005)], [], []⟩ (by kernel_rfl) (hindcastlaw05_TreeOnce_l2_ok m a0 v1_22_0 v1_22_0 r7_2 0 w1_1003 r_ _ kr (fun q1 hq1 v4_22_0 w2_1003 s' h hf => W_pre hf (hindcastlaw05_TreeOnce_j4_ok q1 a0 v4_22_0 w2_1003 r_ _ kr (fun q2 hq2 v1_22_0 w1_1003 s' h hf => ⟨q2, (v1_22_0, w1_1003), Nat.le_of_lt (Nat.lt_trans hq2 hq1), ⟨Nat.le_of_lt (Nat.lt_trans hq2 (Nat.lt_trans hq1 hlt)), h⟩, hf⟩) h)) h)
  · have hx2002 := hb2001
    have h := if_f h hx2002
    refine W_exit ?_
    exact k_x_0 m hlt w1_1003 _ h (convX_fits (v := ⟨[0, 3], [], [], [], [(1003, 1003)], [], []⟩) (s' := LS.mk 94 [(0, .t (.sl 6 (a0.map c_GApiNode))), (3, .ref 1003)] [(1003, some (.row 3 1 (w1_1003.map c_i64)))]) (by kernel_rfl))
set_option maxRecDepth 100000 in
theorem hindcastlaw05_TreeOnce_j3_ok (n : Nat)  (a0 : (List GApiNode)) (w3_1003 : (List Int)) (r_ : Bool) (Q' : Exit → St → Prop) (kr : ∀ (ns : List (Nat × Nat × Nat)) (s : LS) (x : Bool), retX Try.prog ns [.tmp 2] s = some (aB x) → x = r_ → Q' .ret s.st)  (h : recN hindcastlaw05_TreeOnce_B n (.j3 a0 w3_1003) = some r_) : W Try.prog (subC (bodyC Try.prog 6) [1, 1, 1, 1]) (LS.mk 94 [(0, .t (.sl 6 (a0.map c_GApiNode))), (3, .ref 1003)] [(1003, some (.row 3 1 (w3_1003.map c_i64)))]).st Q' := by
  cases n with
  | zero => cases h
  | succ m =>
  have hlt : m < m + 1 := Nat.lt_succ_self m
  replace h : hindcastlaw05_TreeOnce_j3_b (recN hindcastlaw05_TreeOnce_B m) a0 w3_1003 = some r_ := h
  unfold hindcastlaw05_TreeOnce_j3_b at h
  refine W_seq ?_
  refine W_seq ?_
  refine W_x (s' := LS.mk 94 [(0, .t (.sl 6 (a0.map c_GApiNode))), (3, .ref 1003), (7, aI .i64 1)] [(1003, some (.row 3 1 (w3_1003.map c_i64)))]) mixed [(none, [], .no)] ⟨[0, 3, 7], [], [], [], [(1003, 1003)], [], []⟩ [] (by kernel_rfl) trivial ?_
  refine W_block ?_
  exact W_conv (s' := LS.mk 94 [(0, .t (.sl 6 (a0.map c_GApiNode))), (3, .ref 1003), (7, aI .i64 1)] [(1003, some (.row 3 1 (w3_1003.map c_i64)))]) ⟨[0, 3, 7], [], [], [], [(1003, 1003)], [], []⟩ (by kernel_rfl) (hindcastlaw05_TreeOnce_l5_ok m a0 1 w3_1003 r_ _ kr (fun q1 hq1  s' h hf => W_pre hf (hindcastlaw05_TreeOnce_j6_ok q1 a0 r_ _ kr h)) h)
noncomputable def hindcastlaw05_TreeOnce (a0 : (List GApiNode)) : Option Bool :=
  (if (a0.length : Int) > 100 then hindcastlaw05_TreeOnce_j0 else ((hindcastref05_Right a0).bind fun (r1_5 : Bool) => (if r1_5 = true then (if MakeOb 8 (a0.length : Int) then hindcastlaw05_TreeOnce_l1 a0 0 (List.replicate (Int.toNat (a0.length : Int)) 0) else none) else hindcastlaw05_TreeOnce_j0)))
set_option maxRecDepth 100000 in
theorem hindcastlaw05_TreeOnce_ok {a0 : (List GApiNode)} {r_ : Bool} (h : hindcastlaw05_TreeOnce a0 = some r_) : R_hindcastlaw05_TreeOnce a0 r_ := by
  unfold hindcastlaw05_TreeOnce at h
  refine fn_pureX (fn := Try.f6) (by kernel_rfl) (c := subC (bodyC Try.prog 6) []) (by kernel_rfl) (by kernel_rfl) (Nat.le_of_ble_eq_true (by kernel_rfl)) ?_
  generalize hQ' : retQ Try.prog Try.f6 (aB r_) = Q'
  have kr : ∀ (ns : List (Nat × Nat × Nat)) (s : LS) (x : Bool), retX Try.prog ns [.tmp 2] s = some (aB x) → x = r_ → Q' .ret s.st := by subst hQ'; intro ns s x hx hq; subst hq; exact ret_ok (fn := Try.f6) ns hx
  change W Try.prog _ (LS.mk 94 [(0, .t (.sl 6 (a0.map c_GApiNode)))] []).st Q'
  refine W_seq ?_
  refine W_x (s' := LS.mk 94 [(0, .t (.sl 6 (a0.map c_GApiNode)))] []) mixed [(none, [], .no)] ⟨[0], [], [], [], [], [], []⟩ [] (by kernel_rfl) trivial ?_
  refine W_seq ?_
  refine W_seq ?_
  refine (Bool.eq_false_or_eq_true (decide ((a0.length : Int) > 100))).elim (fun hb1 => ?_) (fun hb1 => ?_)
  · have hx2 := hb1
    have h := if_t h hx2
    refine W_x (s' := LS.mk 94 [(0, .t (.sl 6 (a0.map c_GApiNode))), (15, aB true)] []) mixed [(none, [], .no), (none, [], .len a0.length), (none, [], .no), (none, [], .no), (some true, [], .no), (some true, [], .no), (some true, [], .no), (none, [], .dec true)] ⟨[0, 15], [], [], [], [], [], []⟩ [(a0.map c_GApiNode).length = a0.length, (decide ((a0.length : Int) > 100)) = true, (decide ((a0.length : Int) > 100)) = true, (decide ((a0.length : Int) > 100)) = true, (decide ((a0.length : Int) > 100)) = true] (by kernel_rfl) ⟨len_ob, hx2, hx2, hx2, hx2, trivial⟩ ?_
    refine W_cond true (by kernel_rfl) (fun _ => ?_) (fun hb => nomatch ((rfl : true = true).symm.trans hb))
    obtain ⟨n, h⟩ := fix_rec h
    exact W_conv (s' := LS.mk 94 [] []) ⟨[], [], [], [], [], [], []⟩ (by kernel_rfl) (hindcastlaw05_TreeOnce_j0_ok n r_ _ kr h)
  · have hx2 := hb1
    have h := if_f h hx2
    obtain ⟨r1_5, hr1_5, h⟩ := bind_ok h
    have hr1_5 := hindcastref05_Right_ok hr1_5
    refine W_x (s' := LS.mk 94 [(0, .t (.sl 6 (a0.map c_GApiNode))), (15, aB (!r1_5))] []) mixed [(none, [], .no), (none, [], .len a0.length), (none, [], .no), (none, [], .no), (some false, [], .no), (some false, [], .call [] (aB r1_5)), (some false, [], .no), (none, [], .dec false)] ⟨[0, 15], [], [], [], [], [], []⟩ [(a0.map c_GApiNode).length = a0.length, (decide ((a0.length : Int) > 100)) = false, (decide ((a0.length : Int) > 100)) = false, R_hindcastref05_Right a0 r1_5, (decide ((a0.length : Int) > 100)) = false, (decide ((a0.length : Int) > 100)) = false] (by kernel_rfl) ⟨len_ob, hx2, hx2, hr1_5, hx2, hx2, trivial⟩ ?_
    refine W_cond (!r1_5) (by kernel_rfl) (fun hb3 => ?_) (fun hb3 => ?_)
    · have hx4 : r1_5 = false := (bnot_t hb3)
      have h := ib_f h hx4
      obtain ⟨n, h⟩ := fix_rec h
      exact W_conv (s' := LS.mk 94 [] []) ⟨[], [], [], [], [], [], []⟩ (by kernel_rfl) (hindcastlaw05_TreeOnce_j0_ok n r_ _ kr h)
    · have hx4 : r1_5 = true := (bnot_f hb3)
      have h := ib_t h hx4
      refine W_skip ?_
      refine W_seq ?_
      obtain ⟨hd5, h⟩ := ite_ok h
      refine W_x (s' := LS.mk 94 [(0, .t (.sl 6 (a0.map c_GApiNode))), (3, .ref 1003)] [(1003, some (.row 3 1 ((List.replicate (Int.toNat (a0.length : Int)) 0).map c_i64)))]) mixed [(none, [], .no), (none, [], .len a0.length), (none, [], .makes 3 1 ((List.replicate (Int.toNat (a0.length : Int)) 0).map c_i64)), (none, [], .no)] ⟨[0, 3], [], [], [], [(19, 1003)], [], []⟩ [(a0.map c_GApiNode).length = a0.length, Makes Try.prog (opAt (subC (bodyC Try.prog 6) [1, 1, 0]) 2) [aI .i64 (a0.length : Int), aI .i64 (a0.length : Int)] 3 1 ((List.replicate (Int.toNat (a0.length : Int)) 0).map c_i64)] (by kernel_rfl) ⟨len_ob, make_ob (by rfl) (by kernel_rfl) ti3 (by rfl) (by kernel_rfl) (by rfl) c_i64 0 (by kernel_rfl) hd5, trivial⟩ ?_
      refine W_seq ?_
      refine W_seq ?_
      refine W_x (s' := LS.mk 94 [(0, .t (.sl 6 (a0.map c_GApiNode))), (3, .ref 1003), (21, aI .i64 (a0.length : Int)), (22, aI .i64 0)] [(1003, some (.row 3 1 ((List.replicate (Int.toNat (a0.length : Int)) 0).map c_i64)))]) mixed [(none, [], .no), (none, [], .len a0.length), (none, [], .no)] ⟨[0, 3, 21, 22], [], [], [], [(1003, 1003)], [], []⟩ [(a0.map c_GApiNode).length = a0.length] (by kernel_rfl) ⟨len_ob, trivial⟩ ?_
      refine W_block ?_
      obtain ⟨n, h⟩ := fix_rec h
      exact W_conv (s' := LS.mk 94 [(0, .t (.sl 6 (a0.map c_GApiNode))), (3, .ref 1003), (21, aI .i64 (a0.length : Int)), (22, aI .i64 0)] [(1003, some (.row 3 1 ((List.replicate (Int.toNat (a0.length : Int)) 0).map c_i64)))]) ⟨[0, 3, 21, 22], [], [], [], [(1003, 1003)], [], []⟩ (by kernel_rfl) (hindcastlaw05_TreeOnce_l1_ok n a0 0 (List.replicate (Int.toNat (a0.length : Int)) 0) r_ _ kr (fun q1 hq1 w3_1003 s' h hf => W_pre hf (hindcastlaw05_TreeOnce_j3_ok q1 a0 w3_1003 r_ _ kr h)) h)
end Go.Proofs.Ytahioekdpndohaa
