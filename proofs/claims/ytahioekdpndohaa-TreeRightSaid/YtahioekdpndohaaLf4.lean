/- Functions of the program, lifted. -/
import Derived.Test.YtahioekdpndohaaLf3
namespace Go.Proofs.Ytahioekdpndohaa
open Go.RowKit
set_option linter.unusedVariables false
set_option maxHeartbeats 4000000
def R_hindcastref04_Word (a0 : (List UInt8)) (r : Bool) : Prop := FnP Try.prog 56 [aS a0] (aB r)
inductive hindcastref04_Word_C where
  | l0 (a0 : (List UInt8)) (v0_8_0 : Int)
  | j1 
abbrev hindcastref04_Word_C_T : hindcastref04_Word_C → Type := fun _ => Bool
noncomputable def hindcastref04_Word_l0_b (g : (i : hindcastref04_Word_C) → Option (hindcastref04_Word_C_T i)) (a0 : (List UInt8)) (v0_8_0 : Int) : Option Bool :=
  (if v0_8_0 < (([([114, 101, 99] : List UInt8), ([102, 110] : List UInt8), ([118, 97, 114] : List UInt8), ([105, 102] : List UInt8), ([101, 108, 115, 101] : List UInt8), ([119, 104, 105, 108, 101] : List UInt8), ([114, 101, 116, 117, 114, 110] : List UInt8), ([112, 114, 105, 110, 116] : List UInt8), ([116, 114, 117, 101] : List UInt8), ([102, 97, 108, 115, 101] : List UInt8), ([110, 105, 108] : List UInt8), ([109, 97, 107, 101] : List UInt8), ([105, 110, 116] : List UInt8), ([98, 111, 111, 108] : List UInt8), ([115, 116, 114] : List UInt8), ([99, 111, 109, 112] : List UInt8)] : List (List UInt8)).length : Int) then ((getI ([([114, 101, 99] : List UInt8), ([102, 110] : List UInt8), ([118, 97, 114] : List UInt8), ([105, 102] : List UInt8), ([101, 108, 115, 101] : List UInt8), ([119, 104, 105, 108, 101] : List UInt8), ([114, 101, 116, 117, 114, 110] : List UInt8), ([112, 114, 105, 110, 116] : List UInt8), ([116, 114, 117, 101] : List UInt8), ([102, 97, 108, 115, 101] : List UInt8), ([110, 105, 108] : List UInt8), ([109, 97, 107, 101] : List UInt8), ([105, 110, 116] : List UInt8), ([98, 111, 111, 108] : List UInt8), ([115, 116, 114] : List UInt8), ([99, 111, 109, 112] : List UInt8)] : List (List UInt8)) v0_8_0).bind fun (x5_2 : (List UInt8)) => (if x5_2 = a0 then (some true) else g (.l0 a0 (w64 (v0_8_0 + 1))))) else g (.j1))
noncomputable def hindcastref04_Word_j1_b (g : (i : hindcastref04_Word_C) → Option (hindcastref04_Word_C_T i))  : Option Bool :=
  (some false)
noncomputable def hindcastref04_Word_B (g : (i : hindcastref04_Word_C) → Option (hindcastref04_Word_C_T i)) : (i : hindcastref04_Word_C) → Option (hindcastref04_Word_C_T i)
  | .l0 a0 v0_8_0 => hindcastref04_Word_l0_b g a0 v0_8_0
  | .j1  => hindcastref04_Word_j1_b g 
theorem hindcastref04_Word_B_fin (i : hindcastref04_Word_C) : Fin1 (fun g => hindcastref04_Word_B g i) := by
  cases i with
  | l0 a0 v0_8_0 => show Fin1 (fun g => hindcastref04_Word_l0_b g a0 v0_8_0); unfold hindcastref04_Word_l0_b; repeat (first | refine fin_bind ?_ (fun _ => ?_) | refine fin_ite ?_ ?_ | exact fin_ask _ | exact fin_const _)
  | j1  => show Fin1 (fun g => hindcastref04_Word_j1_b g ); unfold hindcastref04_Word_j1_b; repeat (first | refine fin_bind ?_ (fun _ => ?_) | refine fin_ite ?_ ?_ | exact fin_ask _ | exact fin_const _)
noncomputable def hindcastref04_Word_l0 (a0 : (List UInt8)) (v0_8_0 : Int) : Option Bool := fixD hindcastref04_Word_B (.l0 a0 v0_8_0)
noncomputable def hindcastref04_Word_j1  : Option Bool := fixD hindcastref04_Word_B (.j1 )
theorem hindcastref04_Word_l0_eq (a0 : (List UInt8)) (v0_8_0 : Int) : hindcastref04_Word_l0 a0 v0_8_0 =
  (if v0_8_0 < (([([114, 101, 99] : List UInt8), ([102, 110] : List UInt8), ([118, 97, 114] : List UInt8), ([105, 102] : List UInt8), ([101, 108, 115, 101] : List UInt8), ([119, 104, 105, 108, 101] : List UInt8), ([114, 101, 116, 117, 114, 110] : List UInt8), ([112, 114, 105, 110, 116] : List UInt8), ([116, 114, 117, 101] : List UInt8), ([102, 97, 108, 115, 101] : List UInt8), ([110, 105, 108] : List UInt8), ([109, 97, 107, 101] : List UInt8), ([105, 110, 116] : List UInt8), ([98, 111, 111, 108] : List UInt8), ([115, 116, 114] : List UInt8), ([99, 111, 109, 112] : List UInt8)] : List (List UInt8)).length : Int) then ((getI ([([114, 101, 99] : List UInt8), ([102, 110] : List UInt8), ([118, 97, 114] : List UInt8), ([105, 102] : List UInt8), ([101, 108, 115, 101] : List UInt8), ([119, 104, 105, 108, 101] : List UInt8), ([114, 101, 116, 117, 114, 110] : List UInt8), ([112, 114, 105, 110, 116] : List UInt8), ([116, 114, 117, 101] : List UInt8), ([102, 97, 108, 115, 101] : List UInt8), ([110, 105, 108] : List UInt8), ([109, 97, 107, 101] : List UInt8), ([105, 110, 116] : List UInt8), ([98, 111, 111, 108] : List UInt8), ([115, 116, 114] : List UInt8), ([99, 111, 109, 112] : List UInt8)] : List (List UInt8)) v0_8_0).bind fun (x5_2 : (List UInt8)) => (if x5_2 = a0 then (some true) else hindcastref04_Word_l0 a0 (w64 (v0_8_0 + 1)))) else hindcastref04_Word_j1) := fix_eq hindcastref04_Word_B_fin _
theorem hindcastref04_Word_j1_eq  : hindcastref04_Word_j1  =
  (some false) := fix_eq hindcastref04_Word_B_fin _
set_option maxRecDepth 100000 in
theorem hindcastref04_Word_l0_ok (n : Nat)  (a0 : (List UInt8)) (v0_8_0 : Int) (r_ : Bool) (Q' : Exit → St → Prop) (kr : ∀ (ns : List (Nat × Nat × Nat)) (s : LS) (x : Bool), retX Try.prog ns [.tmp 2] s = some (aB x) → x = r_ → Q' .ret s.st) (k_x_0 : ∀ (q : Nat), q < n → ∀  (s' : LS), recN hindcastref04_Word_B q (.j1 ) = some r_ → Fits s'.st (LS.mk 18 [] []).st → Q' (.exit 0) s'.st) (h : recN hindcastref04_Word_B n (.l0 a0 v0_8_0) = some r_) : W Try.prog (subC (bodyC Try.prog 56) [1, 1, 0, 1, 0]) (LS.mk 18 [(0, aS a0), (3, .ref 1003), (7, aI .i64 (([([114, 101, 99] : List UInt8), ([102, 110] : List UInt8), ([118, 97, 114] : List UInt8), ([105, 102] : List UInt8), ([101, 108, 115, 101] : List UInt8), ([119, 104, 105, 108, 101] : List UInt8), ([114, 101, 116, 117, 114, 110] : List UInt8), ([112, 114, 105, 110, 116] : List UInt8), ([116, 114, 117, 101] : List UInt8), ([102, 97, 108, 115, 101] : List UInt8), ([110, 105, 108] : List UInt8), ([109, 97, 107, 101] : List UInt8), ([105, 110, 116] : List UInt8), ([98, 111, 111, 108] : List UInt8), ([115, 116, 114] : List UInt8), ([99, 111, 109, 112] : List UInt8)] : List (List UInt8)).length : Int)), (8, aI .i64 v0_8_0)] [(1003, some (.row 9 1 (([([114, 101, 99] : List UInt8), ([102, 110] : List UInt8), ([118, 97, 114] : List UInt8), ([105, 102] : List UInt8), ([101, 108, 115, 101] : List UInt8), ([119, 104, 105, 108, 101] : List UInt8), ([114, 101, 116, 117, 114, 110] : List UInt8), ([112, 114, 105, 110, 116] : List UInt8), ([116, 114, 117, 101] : List UInt8), ([102, 97, 108, 115, 101] : List UInt8), ([110, 105, 108] : List UInt8), ([109, 97, 107, 101] : List UInt8), ([105, 110, 116] : List UInt8), ([98, 111, 111, 108] : List UInt8), ([115, 116, 114] : List UInt8), ([99, 111, 109, 112] : List UInt8)] : List (List UInt8)).map c_str)))]).st Q' := by
  refine W_fix (σ := Int) (fun m x_ => m ≤ n ∧ recN hindcastref04_Word_B m (.l0 a0 x_) = some r_) (fun x_ => LS.mk 18 [(0, aS a0), (3, .ref 1003), (7, aI .i64 (([([114, 101, 99] : List UInt8), ([102, 110] : List UInt8), ([118, 97, 114] : List UInt8), ([105, 102] : List UInt8), ([101, 108, 115, 101] : List UInt8), ([119, 104, 105, 108, 101] : List UInt8), ([114, 101, 116, 117, 114, 110] : List UInt8), ([112, 114, 105, 110, 116] : List UInt8), ([116, 114, 117, 101] : List UInt8), ([102, 97, 108, 115, 101] : List UInt8), ([110, 105, 108] : List UInt8), ([109, 97, 107, 101] : List UInt8), ([105, 110, 116] : List UInt8), ([98, 111, 111, 108] : List UInt8), ([115, 116, 114] : List UInt8), ([99, 111, 109, 112] : List UInt8)] : List (List UInt8)).length : Int)), (8, aI .i64 x_)] [(1003, some (.row 9 1 (([([114, 101, 99] : List UInt8), ([102, 110] : List UInt8), ([118, 97, 114] : List UInt8), ([105, 102] : List UInt8), ([101, 108, 115, 101] : List UInt8), ([119, 104, 105, 108, 101] : List UInt8), ([114, 101, 116, 117, 114, 110] : List UInt8), ([112, 114, 105, 110, 116] : List UInt8), ([116, 114, 117, 101] : List UInt8), ([102, 97, 108, 115, 101] : List UInt8), ([110, 105, 108] : List UInt8), ([109, 97, 107, 101] : List UInt8), ([105, 110, 116] : List UInt8), ([98, 111, 111, 108] : List UInt8), ([115, 116, 114] : List UInt8), ([99, 111, 109, 112] : List UInt8)] : List (List UInt8)).map c_str)))]) (fun x hx => by cases hx.2) (fun _ _ => rfl) ?_ n (v0_8_0) ⟨Nat.le_refl _, h⟩
  clear h
  rintro m v0_8_0 ⟨hlt, h⟩
  replace h : hindcastref04_Word_l0_b (recN hindcastref04_Word_B m) a0 v0_8_0 = some r_ := h
  unfold hindcastref04_Word_l0_b at h
  refine W_seq ?_
  refine W_y (s' := LS.mk 18 [(0, aS a0), (3, .ref 1003), (7, aI .i64 (([([114, 101, 99] : List UInt8), ([102, 110] : List UInt8), ([118, 97, 114] : List UInt8), ([105, 102] : List UInt8), ([101, 108, 115, 101] : List UInt8), ([119, 104, 105, 108, 101] : List UInt8), ([114, 101, 116, 117, 114, 110] : List UInt8), ([112, 114, 105, 110, 116] : List UInt8), ([116, 114, 117, 101] : List UInt8), ([102, 97, 108, 115, 101] : List UInt8), ([110, 105, 108] : List UInt8), ([109, 97, 107, 101] : List UInt8), ([105, 110, 116] : List UInt8), ([98, 111, 111, 108] : List UInt8), ([115, 116, 114] : List UInt8), ([99, 111, 109, 112] : List UInt8)] : List (List UInt8)).length : Int)), (8, aI .i64 v0_8_0), (9, aB (decide (v0_8_0 < (([([114, 101, 99] : List UInt8), ([102, 110] : List UInt8), ([118, 97, 114] : List UInt8), ([105, 102] : List UInt8), ([101, 108, 115, 101] : List UInt8), ([119, 104, 105, 108, 101] : List UInt8), ([114, 101, 116, 117, 114, 110] : List UInt8), ([112, 114, 105, 110, 116] : List UInt8), ([116, 114, 117, 101] : List UInt8), ([102, 97, 108, 115, 101] : List UInt8), ([110, 105, 108] : List UInt8), ([109, 97, 107, 101] : List UInt8), ([105, 110, 116] : List UInt8), ([98, 111, 111, 108] : List UInt8), ([115, 116, 114] : List UInt8), ([99, 111, 109, 112] : List UInt8)] : List (List UInt8)).length : Int))))] [(1003, some (.row 9 1 (([([114, 101, 99] : List UInt8), ([102, 110] : List UInt8), ([118, 97, 114] : List UInt8), ([105, 102] : List UInt8), ([101, 108, 115, 101] : List UInt8), ([119, 104, 105, 108, 101] : List UInt8), ([114, 101, 116, 117, 114, 110] : List UInt8), ([112, 114, 105, 110, 116] : List UInt8), ([116, 114, 117, 101] : List UInt8), ([102, 97, 108, 115, 101] : List UInt8), ([110, 105, 108] : List UInt8), ([109, 97, 107, 101] : List UInt8), ([105, 110, 116] : List UInt8), ([98, 111, 111, 108] : List UInt8), ([115, 116, 114] : List UInt8), ([99, 111, 109, 112] : List UInt8)] : List (List UInt8)).map c_str)))]) mixed [qn0] ⟨[0, 3, 7, 8, 9], [], [], [], [(1003, 1003)], [], []⟩ aN (by kernel_rfl) ?_
  refine W_seq ?_
  refine W_cond (decide (v0_8_0 < (([([114, 101, 99] : List UInt8), ([102, 110] : List UInt8), ([118, 97, 114] : List UInt8), ([105, 102] : List UInt8), ([101, 108, 115, 101] : List UInt8), ([119, 104, 105, 108, 101] : List UInt8), ([114, 101, 116, 117, 114, 110] : List UInt8), ([112, 114, 105, 110, 116] : List UInt8), ([116, 114, 117, 101] : List UInt8), ([102, 97, 108, 115, 101] : List UInt8), ([110, 105, 108] : List UInt8), ([109, 97, 107, 101] : List UInt8), ([105, 110, 116] : List UInt8), ([98, 111, 111, 108] : List UInt8), ([115, 116, 114] : List UInt8), ([99, 111, 109, 112] : List UInt8)] : List (List UInt8)).length : Int))) (by kernel_rfl) (fun hb1001 => ?_) (fun hb1001 => ?_)
  · have hx1002 := hb1001
    have h := if_t h hx1002
    refine W_skip ?_
    refine W_seq ?_
    refine W_block ?_
    refine W_seq ?_
    refine W_y (s' := LS.mk 18 [(0, aS a0), (3, .ref 1003), (4, aI .i64 v0_8_0), (7, aI .i64 (([([114, 101, 99] : List UInt8), ([102, 110] : List UInt8), ([118, 97, 114] : List UInt8), ([105, 102] : List UInt8), ([101, 108, 115, 101] : List UInt8), ([119, 104, 105, 108, 101] : List UInt8), ([114, 101, 116, 117, 114, 110] : List UInt8), ([112, 114, 105, 110, 116] : List UInt8), ([116, 114, 117, 101] : List UInt8), ([102, 97, 108, 115, 101] : List UInt8), ([110, 105, 108] : List UInt8), ([109, 97, 107, 101] : List UInt8), ([105, 110, 116] : List UInt8), ([98, 111, 111, 108] : List UInt8), ([115, 116, 114] : List UInt8), ([99, 111, 109, 112] : List UInt8)] : List (List UInt8)).length : Int)), (8, aI .i64 v0_8_0)] [(1003, some (.row 9 1 (([([114, 101, 99] : List UInt8), ([102, 110] : List UInt8), ([118, 97, 114] : List UInt8), ([105, 102] : List UInt8), ([101, 108, 115, 101] : List UInt8), ([119, 104, 105, 108, 101] : List UInt8), ([114, 101, 116, 117, 114, 110] : List UInt8), ([112, 114, 105, 110, 116] : List UInt8), ([116, 114, 117, 101] : List UInt8), ([102, 97, 108, 115, 101] : List UInt8), ([110, 105, 108] : List UInt8), ([109, 97, 107, 101] : List UInt8), ([105, 110, 116] : List UInt8), ([98, 111, 111, 108] : List UInt8), ([115, 116, 114] : List UInt8), ([99, 111, 109, 112] : List UInt8)] : List (List UInt8)).map c_str)))]) mixed [qn0, qn0] ⟨[0, 3, 4, 7, 8], [], [], [], [(1003, 1003)], [], []⟩ aN (by kernel_rfl) ?_
    refine W_seq ?_
    obtain ⟨x5_2, hx5_2, h⟩ := bind_ok h
    refine W_y (s' := LS.mk 18 [(0, aS a0), (3, .ref 1003), (7, aI .i64 (([([114, 101, 99] : List UInt8), ([102, 110] : List UInt8), ([118, 97, 114] : List UInt8), ([105, 102] : List UInt8), ([101, 108, 115, 101] : List UInt8), ([119, 104, 105, 108, 101] : List UInt8), ([114, 101, 116, 117, 114, 110] : List UInt8), ([112, 114, 105, 110, 116] : List UInt8), ([116, 114, 117, 101] : List UInt8), ([102, 97, 108, 115, 101] : List UInt8), ([110, 105, 108] : List UInt8), ([109, 97, 107, 101] : List UInt8), ([105, 110, 116] : List UInt8), ([98, 111, 111, 108] : List UInt8), ([115, 116, 114] : List UInt8), ([99, 111, 109, 112] : List UInt8)] : List (List UInt8)).length : Int)), (8, aI .i64 v0_8_0), (16, aB (decide (x5_2 = a0)))] [(1003, some (.row 9 1 (([([114, 101, 99] : List UInt8), ([102, 110] : List UInt8), ([118, 97, 114] : List UInt8), ([105, 102] : List UInt8), ([101, 108, 115, 101] : List UInt8), ([119, 104, 105, 108, 101] : List UInt8), ([114, 101, 116, 117, 114, 110] : List UInt8), ([112, 114, 105, 110, 116] : List UInt8), ([116, 114, 117, 101] : List UInt8), ([102, 97, 108, 115, 101] : List UInt8), ([110, 105, 108] : List UInt8), ([109, 97, 107, 101] : List UInt8), ([105, 110, 116] : List UInt8), ([98, 111, 111, 108] : List UInt8), ([115, 116, 114] : List UInt8), ([99, 111, 109, 112] : List UInt8)] : List (List UInt8)).map c_str)))]) mixed [qn0, qn0, qn (.ix (Int.toNat v0_8_0) (c_str x5_2)), qn (.ix (Int.toNat v0_8_0) (c_str x5_2)), qn0, qn (.val (.bool (decide (x5_2 = a0))))] ⟨[0, 3, 7, 8, 16], [], [], [], [(1003, 1003)], [], []⟩ (aC (ix_obx c_str hx5_2) (aC (el_obx c_str hx5_2) (aC (str_eq_ob (P := Try.prog) 9 x5_2 a0) aN))) (by kernel_rfl) ?_
    refine W_cond (decide (x5_2 = a0)) (by kernel_rfl) (fun hb1003 => ?_) (fun hb1003 => ?_)
    · have hx1004 := hb1003
      have h := if_t h hx1004
      refine W_seq ?_
      refine W_y (s' := LS.mk 18 [(2, aB true)] []) mixed [qn0] ⟨[2], [], [], [], [], [], []⟩ aN (by kernel_rfl) ?_
      refine W_ret ?_
      exact kr [] _ _ (by kernel_rfl) (Option.some.inj h)
    · have hx1004 := hb1003
      have h := if_f h hx1004
      refine W_skip ?_
      refine W_y (s' := LS.mk 18 [(0, aS a0), (3, .ref 1003), (7, aI .i64 (([([114, 101, 99] : List UInt8), ([102, 110] : List UInt8), ([118, 97, 114] : List UInt8), ([105, 102] : List UInt8), ([101, 108, 115, 101] : List UInt8), ([119, 104, 105, 108, 101] : List UInt8), ([114, 101, 116, 117, 114, 110] : List UInt8), ([112, 114, 105, 110, 116] : List UInt8), ([116, 114, 117, 101] : List UInt8), ([102, 97, 108, 115, 101] : List UInt8), ([110, 105, 108] : List UInt8), ([109, 97, 107, 101] : List UInt8), ([105, 110, 116] : List UInt8), ([98, 111, 111, 108] : List UInt8), ([115, 116, 114] : List UInt8), ([99, 111, 109, 112] : List UInt8)] : List (List UInt8)).length : Int)), (8, aI .i64 (w64 (v0_8_0 + 1)))] [(1003, some (.row 9 1 (([([114, 101, 99] : List UInt8), ([102, 110] : List UInt8), ([118, 97, 114] : List UInt8), ([105, 102] : List UInt8), ([101, 108, 115, 101] : List UInt8), ([119, 104, 105, 108, 101] : List UInt8), ([114, 101, 116, 117, 114, 110] : List UInt8), ([112, 114, 105, 110, 116] : List UInt8), ([116, 114, 117, 101] : List UInt8), ([102, 97, 108, 115, 101] : List UInt8), ([110, 105, 108] : List UInt8), ([109, 97, 107, 101] : List UInt8), ([105, 110, 116] : List UInt8), ([98, 111, 111, 108] : List UInt8), ([115, 116, 114] : List UInt8), ([99, 111, 109, 112] : List UInt8)] : List (List UInt8)).map c_str)))]) mixed [qn0, qn0] ⟨[0, 3, 7, 8], [], [], [], [(1003, 1003)], [], []⟩ aN (by kernel_rfl) ?_
      exact ⟨m, ((w64 (v0_8_0 + 1))), Nat.le_refl _, ⟨Nat.le_of_lt hlt, h⟩, convX_fits (v := ⟨[0, 3, 7, 8], [], [], [], [(1003, 1003)], [], []⟩) (s' := LS.mk 18 [(0, aS a0), (3, .ref 1003), (7, aI .i64 (([([114, 101, 99] : List UInt8), ([102, 110] : List UInt8), ([118, 97, 114] : List UInt8), ([105, 102] : List UInt8), ([101, 108, 115, 101] : List UInt8), ([119, 104, 105, 108, 101] : List UInt8), ([114, 101, 116, 117, 114, 110] : List UInt8), ([112, 114, 105, 110, 116] : List UInt8), ([116, 114, 117, 101] : List UInt8), ([102, 97, 108, 115, 101] : List UInt8), ([110, 105, 108] : List UInt8), ([109, 97, 107, 101] : List UInt8), ([105, 110, 116] : List UInt8), ([98, 111, 111, 108] : List UInt8), ([115, 116, 114] : List UInt8), ([99, 111, 109, 112] : List UInt8)] : List (List UInt8)).length : Int)), (8, aI .i64 (w64 (v0_8_0 + 1)))] [(1003, some (.row 9 1 (([([114, 101, 99] : List UInt8), ([102, 110] : List UInt8), ([118, 97, 114] : List UInt8), ([105, 102] : List UInt8), ([101, 108, 115, 101] : List UInt8), ([119, 104, 105, 108, 101] : List UInt8), ([114, 101, 116, 117, 114, 110] : List UInt8), ([112, 114, 105, 110, 116] : List UInt8), ([116, 114, 117, 101] : List UInt8), ([102, 97, 108, 115, 101] : List UInt8), ([110, 105, 108] : List UInt8), ([109, 97, 107, 101] : List UInt8), ([105, 110, 116] : List UInt8), ([98, 111, 111, 108] : List UInt8), ([115, 116, 114] : List UInt8), ([99, 111, 109, 112] : List UInt8)] : List (List UInt8)).map c_str)))]) (by kernel_rfl)⟩
  · have hx1002 := hb1001
    have h := if_f h hx1002
    refine W_exit ?_
    exact k_x_0 m hlt  _ h (convX_fits (v := ⟨[], [], [], [], [], [], []⟩) (s' := LS.mk 18 [] []) (by kernel_rfl))
set_option maxRecDepth 100000 in
theorem hindcastref04_Word_j1_ok (n : Nat)   (r_ : Bool) (Q' : Exit → St → Prop) (kr : ∀ (ns : List (Nat × Nat × Nat)) (s : LS) (x : Bool), retX Try.prog ns [.tmp 2] s = some (aB x) → x = r_ → Q' .ret s.st)  (h : recN hindcastref04_Word_B n (.j1 ) = some r_) : W Try.prog (subC (bodyC Try.prog 56) [1, 1, 1]) (LS.mk 18 [] []).st Q' := by
  cases n with
  | zero => cases h
  | succ m =>
  have hlt : m < m + 1 := Nat.lt_succ_self m
  replace h : hindcastref04_Word_j1_b (recN hindcastref04_Word_B m)  = some r_ := h
  unfold hindcastref04_Word_j1_b at h
  refine W_seq ?_
  refine W_y (s' := LS.mk 18 [(2, aB false)] []) mixed [qn0] ⟨[2], [], [], [], [], [], []⟩ aN (by kernel_rfl) ?_
  refine W_ret ?_
  exact kr [] _ _ (by kernel_rfl) (Option.some.inj h)
noncomputable def hindcastref04_Word (a0 : (List UInt8)) : Option Bool :=
  hindcastref04_Word_l0 a0 0
set_option maxRecDepth 100000 in
theorem hindcastref04_Word_ok {a0 : (List UInt8)} {r_ : Bool} (h : hindcastref04_Word a0 = some r_) : R_hindcastref04_Word a0 r_ := by
  unfold hindcastref04_Word at h
  refine fn_pureX (fn := Try.f56) (by kernel_rfl) (c := subC (bodyC Try.prog 56) []) (by kernel_rfl) (by kernel_rfl) (Nat.le_of_ble_eq_true (by kernel_rfl)) ?_
  generalize hQ' : retQ Try.prog Try.f56 (aB r_) = Q'
  have kr : ∀ (ns : List (Nat × Nat × Nat)) (s : LS) (x : Bool), retX Try.prog ns [.tmp 2] s = some (aB x) → x = r_ → Q' .ret s.st := by subst hQ'; intro ns s x hx hq; subst hq; exact ret_ok (fn := Try.f56) ns hx
  change W Try.prog _ (LS.mk 18 [(0, aS a0)] []).st Q'
  refine W_seq ?_
  refine W_y (s' := LS.mk 18 [(0, aS a0)] []) mixed [qn0] ⟨[0], [], [], [], [], [], []⟩ aN (by kernel_rfl) ?_
  refine W_seq ?_
  refine W_y (s' := LS.mk 18 [(0, aS a0), (3, .ref 1003)] [(1003, some (.row 9 1 (([([114, 101, 99] : List UInt8), ([102, 110] : List UInt8), ([118, 97, 114] : List UInt8), ([105, 102] : List UInt8), ([101, 108, 115, 101] : List UInt8), ([119, 104, 105, 108, 101] : List UInt8), ([114, 101, 116, 117, 114, 110] : List UInt8), ([112, 114, 105, 110, 116] : List UInt8), ([116, 114, 117, 101] : List UInt8), ([102, 97, 108, 115, 101] : List UInt8), ([110, 105, 108] : List UInt8), ([109, 97, 107, 101] : List UInt8), ([105, 110, 116] : List UInt8), ([98, 111, 111, 108] : List UInt8), ([115, 116, 114] : List UInt8), ([99, 111, 109, 112] : List UInt8)] : List (List UInt8)).map c_str)))]) mixed [qn0, qn0] ⟨[0, 3], [], [], [], [(5, 1003)], [], []⟩ aN (by kernel_rfl) ?_
  refine W_seq ?_
  refine W_seq ?_
  refine W_y (s' := LS.mk 18 [(0, aS a0), (3, .ref 1003), (7, aI .i64 (([([114, 101, 99] : List UInt8), ([102, 110] : List UInt8), ([118, 97, 114] : List UInt8), ([105, 102] : List UInt8), ([101, 108, 115, 101] : List UInt8), ([119, 104, 105, 108, 101] : List UInt8), ([114, 101, 116, 117, 114, 110] : List UInt8), ([112, 114, 105, 110, 116] : List UInt8), ([116, 114, 117, 101] : List UInt8), ([102, 97, 108, 115, 101] : List UInt8), ([110, 105, 108] : List UInt8), ([109, 97, 107, 101] : List UInt8), ([105, 110, 116] : List UInt8), ([98, 111, 111, 108] : List UInt8), ([115, 116, 114] : List UInt8), ([99, 111, 109, 112] : List UInt8)] : List (List UInt8)).length : Int)), (8, aI .i64 0)] [(1003, some (.row 9 1 (([([114, 101, 99] : List UInt8), ([102, 110] : List UInt8), ([118, 97, 114] : List UInt8), ([105, 102] : List UInt8), ([101, 108, 115, 101] : List UInt8), ([119, 104, 105, 108, 101] : List UInt8), ([114, 101, 116, 117, 114, 110] : List UInt8), ([112, 114, 105, 110, 116] : List UInt8), ([116, 114, 117, 101] : List UInt8), ([102, 97, 108, 115, 101] : List UInt8), ([110, 105, 108] : List UInt8), ([109, 97, 107, 101] : List UInt8), ([105, 110, 116] : List UInt8), ([98, 111, 111, 108] : List UInt8), ([115, 116, 114] : List UInt8), ([99, 111, 109, 112] : List UInt8)] : List (List UInt8)).map c_str)))]) mixed [qn0, qn (.len ([([114, 101, 99] : List UInt8), ([102, 110] : List UInt8), ([118, 97, 114] : List UInt8), ([105, 102] : List UInt8), ([101, 108, 115, 101] : List UInt8), ([119, 104, 105, 108, 101] : List UInt8), ([114, 101, 116, 117, 114, 110] : List UInt8), ([112, 114, 105, 110, 116] : List UInt8), ([116, 114, 117, 101] : List UInt8), ([102, 97, 108, 115, 101] : List UInt8), ([110, 105, 108] : List UInt8), ([109, 97, 107, 101] : List UInt8), ([105, 110, 116] : List UInt8), ([98, 111, 111, 108] : List UInt8), ([115, 116, 114] : List UInt8), ([99, 111, 109, 112] : List UInt8)] : List (List UInt8)).length), qn0] ⟨[0, 3, 7, 8], [], [], [], [(1003, 1003)], [], []⟩ (aC (len_obx c_str ([([114, 101, 99] : List UInt8), ([102, 110] : List UInt8), ([118, 97, 114] : List UInt8), ([105, 102] : List UInt8), ([101, 108, 115, 101] : List UInt8), ([119, 104, 105, 108, 101] : List UInt8), ([114, 101, 116, 117, 114, 110] : List UInt8), ([112, 114, 105, 110, 116] : List UInt8), ([116, 114, 117, 101] : List UInt8), ([102, 97, 108, 115, 101] : List UInt8), ([110, 105, 108] : List UInt8), ([109, 97, 107, 101] : List UInt8), ([105, 110, 116] : List UInt8), ([98, 111, 111, 108] : List UInt8), ([115, 116, 114] : List UInt8), ([99, 111, 109, 112] : List UInt8)] : List (List UInt8))) aN) (by kernel_rfl) ?_
  refine W_block ?_
  obtain ⟨n, h⟩ := fix_rec h
  exact W_conv (s' := LS.mk 18 [(0, aS a0), (3, .ref 1003), (7, aI .i64 (([([114, 101, 99] : List UInt8), ([102, 110] : List UInt8), ([118, 97, 114] : List UInt8), ([105, 102] : List UInt8), ([101, 108, 115, 101] : List UInt8), ([119, 104, 105, 108, 101] : List UInt8), ([114, 101, 116, 117, 114, 110] : List UInt8), ([112, 114, 105, 110, 116] : List UInt8), ([116, 114, 117, 101] : List UInt8), ([102, 97, 108, 115, 101] : List UInt8), ([110, 105, 108] : List UInt8), ([109, 97, 107, 101] : List UInt8), ([105, 110, 116] : List UInt8), ([98, 111, 111, 108] : List UInt8), ([115, 116, 114] : List UInt8), ([99, 111, 109, 112] : List UInt8)] : List (List UInt8)).length : Int)), (8, aI .i64 0)] [(1003, some (.row 9 1 (([([114, 101, 99] : List UInt8), ([102, 110] : List UInt8), ([118, 97, 114] : List UInt8), ([105, 102] : List UInt8), ([101, 108, 115, 101] : List UInt8), ([119, 104, 105, 108, 101] : List UInt8), ([114, 101, 116, 117, 114, 110] : List UInt8), ([112, 114, 105, 110, 116] : List UInt8), ([116, 114, 117, 101] : List UInt8), ([102, 97, 108, 115, 101] : List UInt8), ([110, 105, 108] : List UInt8), ([109, 97, 107, 101] : List UInt8), ([105, 110, 116] : List UInt8), ([98, 111, 111, 108] : List UInt8), ([115, 116, 114] : List UInt8), ([99, 111, 109, 112] : List UInt8)] : List (List UInt8)).map c_str)))]) ⟨[0, 3, 7, 8], [], [], [], [(1003, 1003)], [], []⟩ (by kernel_rfl) (hindcastref04_Word_l0_ok n a0 0 r_ _ kr (fun q1 hq1  s' h hf => W_pre hf (hindcastref04_Word_j1_ok q1 r_ _ kr h)) h)
def R_hindcastref03_value (a0 : Int) (r : Int) : Prop := FnP Try.prog 60 [aI .u8 a0] (aI .i64 r)
noncomputable def hindcastref03_value_j2  : Option Int :=
  (some (-1))
noncomputable def hindcastref03_value_j0 (a0 : Int) : Option Int :=
  (if a0 ≥ 65 then (if a0 ≤ 70 then (some (w64 ((w64 a0) - 55))) else hindcastref03_value_j2) else hindcastref03_value_j2)
noncomputable def hindcastref03_value_j1 (a0 : Int) : Option Int :=
  (if a0 ≥ 97 then (if a0 ≤ 102 then (some (w64 ((w64 a0) - 87))) else hindcastref03_value_j0 a0) else hindcastref03_value_j0 a0)
set_option maxRecDepth 100000 in
theorem hindcastref03_value_j0_ok (a0 : Int) (r_ : Int) (Q' : Exit → St → Prop) (kr : ∀ (ns : List (Nat × Nat × Nat)) (s : LS) (x : Int), retX Try.prog ns [.tmp 2] s = some (aI .i64 x) → x = r_ → Q' .ret s.st) (k_n : ∀  (s' : LS), hindcastref03_value_j2  = some r_ → Fits s'.st (LS.mk 33 [] []).st → Q' .normal s'.st) (h : hindcastref03_value_j0 a0 = some r_) : W Try.prog (subC (bodyC Try.prog 60) [1, 0, 0, 1, 1, 1, 1]) (LS.mk 33 [(0, aI .u8 a0)] []).st Q' := by
  unfold hindcastref03_value_j0 at h
  refine W_seq ?_
  refine (Bool.eq_false_or_eq_true (decide (a0 ≥ 65))).elim (fun hb1001 => ?_) (fun hb1001 => ?_)
  · have hx1002 := hb1001
    have h := if_t h hx1002
    refine W_y (s' := LS.mk 33 [(0, aI .u8 a0), (23, aB (decide (a0 ≤ 70)))] []) mixed [qn0, qn0, qn0, qt0, qt0, qn (.dec true), qn0] ⟨[0, 23], [], [], [], [], [], []⟩ (aC hx1002 (aC hx1002 (aC hx1002 aN))) (by kernel_rfl) ?_
    refine W_cond (decide (a0 ≤ 70)) (by kernel_rfl) (fun hb1003 => ?_) (fun hb1003 => ?_)
    · have hx1004 := hb1003
      have h := if_t h hx1004
      refine W_seq ?_
      refine W_y (s' := LS.mk 33 [(2, aI .i64 (w64 ((w64 a0) - 55)))] []) mixed [qn0, qn0, qn0, qn0] ⟨[2], [], [], [], [], [], []⟩ aN (by kernel_rfl) ?_
      refine W_ret ?_
      exact kr [] _ _ (by kernel_rfl) (Option.some.inj h)
    · have hx1004 := hb1003
      have h := if_f h hx1004
      refine W_skip ?_
      exact k_n  _ h (convX_fits (v := ⟨[], [], [], [], [], [], []⟩) (s' := LS.mk 33 [] []) (by kernel_rfl))
  · have hx1002 := hb1001
    have h := if_f h hx1002
    refine W_y (s' := LS.mk 33 [(0, aI .u8 a0), (23, aB false)] []) mixed [qn0, qn0, qn0, qf0, qf0, qn (.dec false), qn0] ⟨[0, 23], [], [], [], [], [], []⟩ (aC hx1002 (aC hx1002 (aC hx1002 aN))) (by kernel_rfl) ?_
    refine W_cond false (by kernel_rfl) (fun hb => nomatch ((rfl : false = false).symm.trans hb)) (fun _ => ?_)
    refine W_skip ?_
    exact k_n  _ h (convX_fits (v := ⟨[], [], [], [], [], [], []⟩) (s' := LS.mk 33 [] []) (by kernel_rfl))
set_option maxRecDepth 100000 in
theorem hindcastref03_value_j2_ok  (r_ : Int) (Q' : Exit → St → Prop) (kr : ∀ (ns : List (Nat × Nat × Nat)) (s : LS) (x : Int), retX Try.prog ns [.tmp 2] s = some (aI .i64 x) → x = r_ → Q' .ret s.st)  (h : hindcastref03_value_j2  = some r_) : W Try.prog (subC (bodyC Try.prog 60) [1, 1]) (LS.mk 33 [] []).st Q' := by
  unfold hindcastref03_value_j2 at h
  refine W_seq ?_
  refine W_y (s' := LS.mk 33 [(2, aI .i64 (-1))] []) mixed [qn0] ⟨[2], [], [], [], [], [], []⟩ aN (by kernel_rfl) ?_
  refine W_ret ?_
  exact kr [] _ _ (by kernel_rfl) (Option.some.inj h)
set_option maxRecDepth 100000 in
theorem hindcastref03_value_j1_ok (a0 : Int) (r_ : Int) (Q' : Exit → St → Prop) (kr : ∀ (ns : List (Nat × Nat × Nat)) (s : LS) (x : Int), retX Try.prog ns [.tmp 2] s = some (aI .i64 x) → x = r_ → Q' .ret s.st) (k_n : ∀  (s' : LS), hindcastref03_value_j2  = some r_ → Fits s'.st (LS.mk 33 [] []).st → Q' .normal s'.st) (h : hindcastref03_value_j1 a0 = some r_) : W Try.prog (subC (bodyC Try.prog 60) [1, 0, 0, 1, 1]) (LS.mk 33 [(0, aI .u8 a0)] []).st Q' := by
  unfold hindcastref03_value_j1 at h
  refine W_seq ?_
  refine (Bool.eq_false_or_eq_true (decide (a0 ≥ 97))).elim (fun hb2001 => ?_) (fun hb2001 => ?_)
  · have hx2002 := hb2001
    have h := if_t h hx2002
    refine W_y (s' := LS.mk 33 [(0, aI .u8 a0), (13, aB (decide (a0 ≤ 102)))] []) mixed [qn0, qn0, qn0, qt0, qt0, qn (.dec true), qn0] ⟨[0, 13], [], [], [], [], [], []⟩ (aC hx2002 (aC hx2002 (aC hx2002 aN))) (by kernel_rfl) ?_
    refine W_cond (decide (a0 ≤ 102)) (by kernel_rfl) (fun hb2003 => ?_) (fun hb2003 => ?_)
    · have hx2004 := hb2003
      have h := if_t h hx2004
      refine W_seq ?_
      refine W_y (s' := LS.mk 33 [(2, aI .i64 (w64 ((w64 a0) - 87)))] []) mixed [qn0, qn0, qn0, qn0] ⟨[2], [], [], [], [], [], []⟩ aN (by kernel_rfl) ?_
      refine W_ret ?_
      exact kr [] _ _ (by kernel_rfl) (Option.some.inj h)
    · have hx2004 := hb2003
      have h := if_f h hx2004
      exact W_conv (s' := LS.mk 33 [(0, aI .u8 a0)] []) ⟨[0], [], [], [], [], [], []⟩ (by kernel_rfl) (hindcastref03_value_j0_ok a0 r_ _ kr (fun  s' h hf => k_n  s' h hf) h)
  · have hx2002 := hb2001
    have h := if_f h hx2002
    refine W_y (s' := LS.mk 33 [(0, aI .u8 a0), (13, aB false)] []) mixed [qn0, qn0, qn0, qf0, qf0, qn (.dec false), qn0] ⟨[0, 13], [], [], [], [], [], []⟩ (aC hx2002 (aC hx2002 (aC hx2002 aN))) (by kernel_rfl) ?_
    refine W_cond false (by kernel_rfl) (fun hb => nomatch ((rfl : false = false).symm.trans hb)) (fun _ => ?_)
    exact W_conv (s' := LS.mk 33 [(0, aI .u8 a0)] []) ⟨[0], [], [], [], [], [], []⟩ (by kernel_rfl) (hindcastref03_value_j0_ok a0 r_ _ kr (fun  s' h hf => k_n  s' h hf) h)
noncomputable def hindcastref03_value (a0 : Int) : Option Int :=
  (if a0 ≥ 48 then (if a0 ≤ 57 then (some (w64 ((w64 a0) - 48))) else hindcastref03_value_j1 a0) else hindcastref03_value_j1 a0)
set_option maxRecDepth 100000 in
theorem hindcastref03_value_ok {a0 : Int} {r_ : Int} (h : hindcastref03_value a0 = some r_) : R_hindcastref03_value a0 r_ := by
  unfold hindcastref03_value at h
  refine fn_pureX (fn := Try.f60) (by kernel_rfl) (c := subC (bodyC Try.prog 60) []) (by kernel_rfl) (by kernel_rfl) (Nat.le_of_ble_eq_true (by kernel_rfl)) ?_
  generalize hQ' : retQ Try.prog Try.f60 (aI .i64 r_) = Q'
  have kr : ∀ (ns : List (Nat × Nat × Nat)) (s : LS) (x : Int), retX Try.prog ns [.tmp 2] s = some (aI .i64 x) → x = r_ → Q' .ret s.st := by subst hQ'; intro ns s x hx hq; subst hq; exact ret_ok (fn := Try.f60) ns hx
  change W Try.prog _ (LS.mk 33 [(0, aI .u8 a0)] []).st Q'
  refine W_seq ?_
  refine W_y (s' := LS.mk 33 [(0, aI .u8 a0)] []) mixed [qn0] ⟨[0], [], [], [], [], [], []⟩ aN (by kernel_rfl) ?_
  refine W_seq ?_
  refine W_block ?_
  refine W_seq ?_
  refine (Bool.eq_false_or_eq_true (decide (a0 ≥ 48))).elim (fun hb1 => ?_) (fun hb1 => ?_)
  · have hx2 := hb1
    have h := if_t h hx2
    refine W_y (s' := LS.mk 33 [(0, aI .u8 a0), (3, aB (decide (a0 ≤ 57)))] []) mixed [qn0, qn0, qn0, qt0, qt0, qn (.dec true), qn0] ⟨[0, 3], [], [], [], [], [], []⟩ (aC hx2 (aC hx2 (aC hx2 aN))) (by kernel_rfl) ?_
    refine W_cond (decide (a0 ≤ 57)) (by kernel_rfl) (fun hb3 => ?_) (fun hb3 => ?_)
    · have hx4 := hb3
      have h := if_t h hx4
      refine W_seq ?_
      refine W_y (s' := LS.mk 33 [(2, aI .i64 (w64 ((w64 a0) - 48)))] []) mixed [qn0, qn0, qn0, qn0] ⟨[2], [], [], [], [], [], []⟩ aN (by kernel_rfl) ?_
      refine W_ret ?_
      exact kr [] _ _ (by kernel_rfl) (Option.some.inj h)
    · have hx4 := hb3
      have h := if_f h hx4
      exact W_conv (s' := LS.mk 33 [(0, aI .u8 a0)] []) ⟨[0], [], [], [], [], [], []⟩ (by kernel_rfl) (hindcastref03_value_j1_ok a0 r_ _ kr (fun  s' h hf => W_pre hf (hindcastref03_value_j2_ok r_ _ kr h)) h)
  · have hx2 := hb1
    have h := if_f h hx2
    refine W_y (s' := LS.mk 33 [(0, aI .u8 a0), (3, aB false)] []) mixed [qn0, qn0, qn0, qf0, qf0, qn (.dec false), qn0] ⟨[0, 3], [], [], [], [], [], []⟩ (aC hx2 (aC hx2 (aC hx2 aN))) (by kernel_rfl) ?_
    refine W_cond false (by kernel_rfl) (fun hb => nomatch ((rfl : false = false).symm.trans hb)) (fun _ => ?_)
    exact W_conv (s' := LS.mk 33 [(0, aI .u8 a0)] []) ⟨[0], [], [], [], [], [], []⟩ (by kernel_rfl) (hindcastref03_value_j1_ok a0 r_ _ kr (fun  s' h hf => W_pre hf (hindcastref03_value_j2_ok r_ _ kr h)) h)
def R_hindcastref03_Read (a0 : (List UInt8)) (r : ((List UInt8) × Int × Bool)) : Prop := FnP Try.prog 58 [aS a0] (.tup [aS r.1, aI .i64 r.2.1, aB r.2.2])
inductive hindcastref03_Read_C where
  | l0 (a0 : (List UInt8)) (v0_6_0 : Int) (w0_1005 : (List Int))
  | j1 (a0 : (List UInt8)) (v0_6_0 : Int) (w0_1005 : (List Int))
  | l2 (a0 : (List UInt8)) (v0_6_0 : Int) (v2_8_0 : Int) (w0_1005 : (List Int))
  | j3 (a0 : (List UInt8))
  | j4 (a0 : (List UInt8)) (v4_6_0 : Int) (w4_1005 : (List Int))
  | j5 (a0 : (List UInt8)) (v0_6_0 : Int) (w0_1005 : (List Int))
abbrev hindcastref03_Read_C_T : hindcastref03_Read_C → Type := fun _ => ((List UInt8) × Int × Bool)
noncomputable def hindcastref03_Read_l0_b (g : (i : hindcastref03_Read_C) → Option (hindcastref03_Read_C_T i)) (a0 : (List UInt8)) (v0_6_0 : Int) (w0_1005 : (List Int)) : Option ((List UInt8) × Int × Bool) :=
  (if v0_6_0 < (a0.length : Int) then ((getI a0 v0_6_0).bind fun (x6_2 : UInt8) => (if (x6_2.toNat : Int) < 32 then (some (([] : List UInt8), v0_6_0, false)) else (if (x6_2.toNat : Int) > 126 then (some (([] : List UInt8), v0_6_0, false)) else (if (x6_2.toNat : Int) = 34 then (if BytesOb w0_1005 then (some ((bytesS w0_1005), (w64 (v0_6_0 + 1)), true)) else none) else (if (x6_2.toNat : Int) = 92 then (if (w64 (v0_6_0 + 1)) ≥ (a0.length : Int) then (some (([] : List UInt8), (w64 (v0_6_0 + 1)), false)) else ((getI a0 (w64 (v0_6_0 + 1))).bind fun (x16_2 : UInt8) => (if (x16_2.toNat : Int) = 34 then g (.j1 a0 v0_6_0 w0_1005) else (if (x16_2.toNat : Int) = 92 then g (.j1 a0 v0_6_0 w0_1005) else (if (x16_2.toNat : Int) = 110 then (if AppOb 1 (w0_1005.length + ([10] : List Int).length) then g (.j4 a0 (w64 (v0_6_0 + 1)) (w0_1005 ++ ([10] : List Int))) else none) else (if (x16_2.toNat : Int) = 116 then (if AppOb 1 (w0_1005.length + ([9] : List Int).length) then g (.j4 a0 (w64 (v0_6_0 + 1)) (w0_1005 ++ ([9] : List Int))) else none) else (if (x16_2.toNat : Int) = 120 then g (.l2 a0 v0_6_0 1 w0_1005) else (some (([] : List UInt8), (w64 (v0_6_0 + 1)), false))))))))) else (if AppOb 1 (w0_1005.length + ([(x6_2.toNat : Int)] : List Int).length) then g (.j4 a0 v0_6_0 (w0_1005 ++ ([(x6_2.toNat : Int)] : List Int))) else none)))))) else g (.j3 a0))
noncomputable def hindcastref03_Read_j1_b (g : (i : hindcastref03_Read_C) → Option (hindcastref03_Read_C_T i)) (a0 : (List UInt8)) (v0_6_0 : Int) (w0_1005 : (List Int)) : Option ((List UInt8) × Int × Bool) :=
  ((getI a0 (w64 (v0_6_0 + 1))).bind fun (x19_3 : UInt8) => (if AppOb 1 (w0_1005.length + ([(x19_3.toNat : Int)] : List Int).length) then g (.j4 a0 (w64 (v0_6_0 + 1)) (w0_1005 ++ ([(x19_3.toNat : Int)] : List Int))) else none))
noncomputable def hindcastref03_Read_l2_b (g : (i : hindcastref03_Read_C) → Option (hindcastref03_Read_C_T i)) (a0 : (List UInt8)) (v0_6_0 : Int) (v2_8_0 : Int) (w0_1005 : (List Int)) : Option ((List UInt8) × Int × Bool) :=
  (if v2_8_0 ≤ 2 then (if (w64 ((w64 (v0_6_0 + 1)) + v2_8_0)) ≥ (a0.length : Int) then (some (([] : List UInt8), (w64 ((w64 (v0_6_0 + 1)) + v2_8_0)), false)) else ((getI a0 (w64 ((w64 (v0_6_0 + 1)) + v2_8_0))).bind fun (x27_11 : UInt8) => ((hindcastref03_value (x27_11.toNat : Int)).bind fun (r27_12 : Int) => (if r27_12 < 0 then (some (([] : List UInt8), (w64 ((w64 (v0_6_0 + 1)) + v2_8_0)), false)) else g (.l2 a0 v0_6_0 (w64 (v2_8_0 + 1)) w0_1005))))) else g (.j5 a0 v0_6_0 w0_1005))
noncomputable def hindcastref03_Read_j3_b (g : (i : hindcastref03_Read_C) → Option (hindcastref03_Read_C_T i)) (a0 : (List UInt8)) : Option ((List UInt8) × Int × Bool) :=
  (some (([] : List UInt8), (a0.length : Int), false))
noncomputable def hindcastref03_Read_j4_b (g : (i : hindcastref03_Read_C) → Option (hindcastref03_Read_C_T i)) (a0 : (List UInt8)) (v4_6_0 : Int) (w4_1005 : (List Int)) : Option ((List UInt8) × Int × Bool) :=
  g (.l0 a0 (w64 (v4_6_0 + 1)) w4_1005)
noncomputable def hindcastref03_Read_j5_b (g : (i : hindcastref03_Read_C) → Option (hindcastref03_Read_C_T i)) (a0 : (List UInt8)) (v0_6_0 : Int) (w0_1005 : (List Int)) : Option ((List UInt8) × Int × Bool) :=
  ((getI a0 (w64 ((w64 (v0_6_0 + 1)) + 1))).bind fun (x30_4 : UInt8) => ((hindcastref03_value (x30_4.toNat : Int)).bind fun (r30_5 : Int) => ((getI a0 (w64 ((w64 (v0_6_0 + 1)) + 2))).bind fun (x30_10 : UInt8) => ((hindcastref03_value (x30_10.toNat : Int)).bind fun (r30_11 : Int) => (if AppOb 1 (w0_1005.length + ([(IntKind.wrap .u8 (w64 ((w64 (r30_5 * 16)) + r30_11)))] : List Int).length) then g (.j4 a0 (w64 ((w64 (v0_6_0 + 1)) + 2)) (w0_1005 ++ ([(IntKind.wrap .u8 (w64 ((w64 (r30_5 * 16)) + r30_11)))] : List Int))) else none)))))
noncomputable def hindcastref03_Read_B (g : (i : hindcastref03_Read_C) → Option (hindcastref03_Read_C_T i)) : (i : hindcastref03_Read_C) → Option (hindcastref03_Read_C_T i)
  | .l0 a0 v0_6_0 w0_1005 => hindcastref03_Read_l0_b g a0 v0_6_0 w0_1005
  | .j1 a0 v0_6_0 w0_1005 => hindcastref03_Read_j1_b g a0 v0_6_0 w0_1005
  | .l2 a0 v0_6_0 v2_8_0 w0_1005 => hindcastref03_Read_l2_b g a0 v0_6_0 v2_8_0 w0_1005
  | .j3 a0 => hindcastref03_Read_j3_b g a0
  | .j4 a0 v4_6_0 w4_1005 => hindcastref03_Read_j4_b g a0 v4_6_0 w4_1005
  | .j5 a0 v0_6_0 w0_1005 => hindcastref03_Read_j5_b g a0 v0_6_0 w0_1005
theorem hindcastref03_Read_B_fin (i : hindcastref03_Read_C) : Fin1 (fun g => hindcastref03_Read_B g i) := by
  cases i with
  | l0 a0 v0_6_0 w0_1005 => show Fin1 (fun g => hindcastref03_Read_l0_b g a0 v0_6_0 w0_1005); unfold hindcastref03_Read_l0_b; repeat (first | refine fin_bind ?_ (fun _ => ?_) | refine fin_ite ?_ ?_ | exact fin_ask _ | exact fin_const _)
  | j1 a0 v0_6_0 w0_1005 => show Fin1 (fun g => hindcastref03_Read_j1_b g a0 v0_6_0 w0_1005); unfold hindcastref03_Read_j1_b; repeat (first | refine fin_bind ?_ (fun _ => ?_) | refine fin_ite ?_ ?_ | exact fin_ask _ | exact fin_const _)
  | l2 a0 v0_6_0 v2_8_0 w0_1005 => show Fin1 (fun g => hindcastref03_Read_l2_b g a0 v0_6_0 v2_8_0 w0_1005); unfold hindcastref03_Read_l2_b; repeat (first | refine fin_bind ?_ (fun _ => ?_) | refine fin_ite ?_ ?_ | exact fin_ask _ | exact fin_const _)
  | j3 a0 => show Fin1 (fun g => hindcastref03_Read_j3_b g a0); unfold hindcastref03_Read_j3_b; repeat (first | refine fin_bind ?_ (fun _ => ?_) | refine fin_ite ?_ ?_ | exact fin_ask _ | exact fin_const _)
  | j4 a0 v4_6_0 w4_1005 => show Fin1 (fun g => hindcastref03_Read_j4_b g a0 v4_6_0 w4_1005); unfold hindcastref03_Read_j4_b; repeat (first | refine fin_bind ?_ (fun _ => ?_) | refine fin_ite ?_ ?_ | exact fin_ask _ | exact fin_const _)
  | j5 a0 v0_6_0 w0_1005 => show Fin1 (fun g => hindcastref03_Read_j5_b g a0 v0_6_0 w0_1005); unfold hindcastref03_Read_j5_b; repeat (first | refine fin_bind ?_ (fun _ => ?_) | refine fin_ite ?_ ?_ | exact fin_ask _ | exact fin_const _)
noncomputable def hindcastref03_Read_l0 (a0 : (List UInt8)) (v0_6_0 : Int) (w0_1005 : (List Int)) : Option ((List UInt8) × Int × Bool) := fixD hindcastref03_Read_B (.l0 a0 v0_6_0 w0_1005)
noncomputable def hindcastref03_Read_j1 (a0 : (List UInt8)) (v0_6_0 : Int) (w0_1005 : (List Int)) : Option ((List UInt8) × Int × Bool) := fixD hindcastref03_Read_B (.j1 a0 v0_6_0 w0_1005)
noncomputable def hindcastref03_Read_l2 (a0 : (List UInt8)) (v0_6_0 : Int) (v2_8_0 : Int) (w0_1005 : (List Int)) : Option ((List UInt8) × Int × Bool) := fixD hindcastref03_Read_B (.l2 a0 v0_6_0 v2_8_0 w0_1005)
noncomputable def hindcastref03_Read_j3 (a0 : (List UInt8)) : Option ((List UInt8) × Int × Bool) := fixD hindcastref03_Read_B (.j3 a0)
noncomputable def hindcastref03_Read_j4 (a0 : (List UInt8)) (v4_6_0 : Int) (w4_1005 : (List Int)) : Option ((List UInt8) × Int × Bool) := fixD hindcastref03_Read_B (.j4 a0 v4_6_0 w4_1005)
noncomputable def hindcastref03_Read_j5 (a0 : (List UInt8)) (v0_6_0 : Int) (w0_1005 : (List Int)) : Option ((List UInt8) × Int × Bool) := fixD hindcastref03_Read_B (.j5 a0 v0_6_0 w0_1005)
theorem hindcastref03_Read_l0_eq (a0 : (List UInt8)) (v0_6_0 : Int) (w0_1005 : (List Int)) : hindcastref03_Read_l0 a0 v0_6_0 w0_1005 =
  (if v0_6_0 < (a0.length : Int) then ((getI a0 v0_6_0).bind fun (x6_2 : UInt8) => (if (x6_2.toNat : Int) < 32 then (some (([] : List UInt8), v0_6_0, false)) else (if (x6_2.toNat : Int) > 126 then (some (([] : List UInt8), v0_6_0, false)) else (if (x6_2.toNat : Int) = 34 then (if BytesOb w0_1005 then (some ((bytesS w0_1005), (w64 (v0_6_0 + 1)), true)) else none) else (if (x6_2.toNat : Int) = 92 then (if (w64 (v0_6_0 + 1)) ≥ (a0.length : Int) then (some (([] : List UInt8), (w64 (v0_6_0 + 1)), false)) else ((getI a0 (w64 (v0_6_0 + 1))).bind fun (x16_2 : UInt8) => (if (x16_2.toNat : Int) = 34 then hindcastref03_Read_j1 a0 v0_6_0 w0_1005 else (if (x16_2.toNat : Int) = 92 then hindcastref03_Read_j1 a0 v0_6_0 w0_1005 else (if (x16_2.toNat : Int) = 110 then (if AppOb 1 (w0_1005.length + ([10] : List Int).length) then hindcastref03_Read_j4 a0 (w64 (v0_6_0 + 1)) (w0_1005 ++ ([10] : List Int)) else none) else (if (x16_2.toNat : Int) = 116 then (if AppOb 1 (w0_1005.length + ([9] : List Int).length) then hindcastref03_Read_j4 a0 (w64 (v0_6_0 + 1)) (w0_1005 ++ ([9] : List Int)) else none) else (if (x16_2.toNat : Int) = 120 then hindcastref03_Read_l2 a0 v0_6_0 1 w0_1005 else (some (([] : List UInt8), (w64 (v0_6_0 + 1)), false))))))))) else (if AppOb 1 (w0_1005.length + ([(x6_2.toNat : Int)] : List Int).length) then hindcastref03_Read_j4 a0 v0_6_0 (w0_1005 ++ ([(x6_2.toNat : Int)] : List Int)) else none)))))) else hindcastref03_Read_j3 a0) := fix_eq hindcastref03_Read_B_fin _
theorem hindcastref03_Read_j1_eq (a0 : (List UInt8)) (v0_6_0 : Int) (w0_1005 : (List Int)) : hindcastref03_Read_j1 a0 v0_6_0 w0_1005 =
  ((getI a0 (w64 (v0_6_0 + 1))).bind fun (x19_3 : UInt8) => (if AppOb 1 (w0_1005.length + ([(x19_3.toNat : Int)] : List Int).length) then hindcastref03_Read_j4 a0 (w64 (v0_6_0 + 1)) (w0_1005 ++ ([(x19_3.toNat : Int)] : List Int)) else none)) := fix_eq hindcastref03_Read_B_fin _
theorem hindcastref03_Read_l2_eq (a0 : (List UInt8)) (v0_6_0 : Int) (v2_8_0 : Int) (w0_1005 : (List Int)) : hindcastref03_Read_l2 a0 v0_6_0 v2_8_0 w0_1005 =
  (if v2_8_0 ≤ 2 then (if (w64 ((w64 (v0_6_0 + 1)) + v2_8_0)) ≥ (a0.length : Int) then (some (([] : List UInt8), (w64 ((w64 (v0_6_0 + 1)) + v2_8_0)), false)) else ((getI a0 (w64 ((w64 (v0_6_0 + 1)) + v2_8_0))).bind fun (x27_11 : UInt8) => ((hindcastref03_value (x27_11.toNat : Int)).bind fun (r27_12 : Int) => (if r27_12 < 0 then (some (([] : List UInt8), (w64 ((w64 (v0_6_0 + 1)) + v2_8_0)), false)) else hindcastref03_Read_l2 a0 v0_6_0 (w64 (v2_8_0 + 1)) w0_1005)))) else hindcastref03_Read_j5 a0 v0_6_0 w0_1005) := fix_eq hindcastref03_Read_B_fin _
theorem hindcastref03_Read_j3_eq (a0 : (List UInt8)) : hindcastref03_Read_j3 a0 =
  (some (([] : List UInt8), (a0.length : Int), false)) := fix_eq hindcastref03_Read_B_fin _
theorem hindcastref03_Read_j4_eq (a0 : (List UInt8)) (v4_6_0 : Int) (w4_1005 : (List Int)) : hindcastref03_Read_j4 a0 v4_6_0 w4_1005 =
  hindcastref03_Read_l0 a0 (w64 (v4_6_0 + 1)) w4_1005 := fix_eq hindcastref03_Read_B_fin _
theorem hindcastref03_Read_j5_eq (a0 : (List UInt8)) (v0_6_0 : Int) (w0_1005 : (List Int)) : hindcastref03_Read_j5 a0 v0_6_0 w0_1005 =
  ((getI a0 (w64 ((w64 (v0_6_0 + 1)) + 1))).bind fun (x30_4 : UInt8) => ((hindcastref03_value (x30_4.toNat : Int)).bind fun (r30_5 : Int) => ((getI a0 (w64 ((w64 (v0_6_0 + 1)) + 2))).bind fun (x30_10 : UInt8) => ((hindcastref03_value (x30_10.toNat : Int)).bind fun (r30_11 : Int) => (if AppOb 1 (w0_1005.length + ([(IntKind.wrap .u8 (w64 ((w64 (r30_5 * 16)) + r30_11)))] : List Int).length) then hindcastref03_Read_j4 a0 (w64 ((w64 (v0_6_0 + 1)) + 2)) (w0_1005 ++ ([(IntKind.wrap .u8 (w64 ((w64 (r30_5 * 16)) + r30_11)))] : List Int)) else none))))) := fix_eq hindcastref03_Read_B_fin _
set_option maxRecDepth 100000 in
theorem hindcastref03_Read_j1_ok (n : Nat)  (a0 : (List UInt8)) (v0_6_0 : Int) (w0_1005 : (List Int)) (r_ : ((List UInt8) × Int × Bool)) (Q' : Exit → St → Prop) (kr : ∀ (ns : List (Nat × Nat × Nat)) (s : LS) (x : ((List UInt8) × Int × Bool)), retX Try.prog ns [.tmp 2, .tmp 3, .tmp 4] s = some (.tup [aS x.1, aI .i64 x.2.1, aB x.2.2]) → x = r_ → Q' .ret s.st) (k_n : ∀ (q : Nat), q < n → ∀ (v4_6_0 : Int) (w4_1005 : (List Int)) (s' : LS), recN hindcastref03_Read_B q (.j4 a0 v4_6_0 w4_1005) = some r_ → Fits s'.st (LS.mk 120 [(0, aS a0), (5, .ref 1005), (6, aI .i64 v4_6_0)] [(1005, some (.row 5 1 (w4_1005.map c_u8)))]).st → Q' .normal s'.st) (h : recN hindcastref03_Read_B n (.j1 a0 v0_6_0 w0_1005) = some r_) : W Try.prog (subC (bodyC Try.prog 58) [1, 1, 1, 0, 1, 0, 0, 1, 0, 0, 1, 1, 1, 1, 1, 1, 1, 0, 1, 0]) (LS.mk 120 [(0, aS a0), (5, .ref 1005), (6, aI .i64 (w64 (v0_6_0 + 1)))] [(1005, some (.row 5 1 (w0_1005.map c_u8)))]).st Q' := by
  cases n with
  | zero => cases h
  | succ m =>
  have hlt : m < m + 1 := Nat.lt_succ_self m
  replace h : hindcastref03_Read_j1_b (recN hindcastref03_Read_B m) a0 v0_6_0 w0_1005 = some r_ := h
  unfold hindcastref03_Read_j1_b at h
  obtain ⟨x19_3, hx19_3, h⟩ := bind_ok h
  obtain ⟨hd2001, h⟩ := ite_ok h
  refine W_y (s' := LS.mk 120 [(0, aS a0), (5, .ref 1005), (6, aI .i64 (w64 (v0_6_0 + 1)))] [(1005, some (.row 5 1 ((w0_1005 ++ ([(x19_3.toNat : Int)] : List Int)).map c_u8)))]) mixed [qn0, qn0, qn0, qn (.sx (Int.toNat (w64 (v0_6_0 + 1))) x19_3), qn0, qn (.rows ((w0_1005 ++ ([(x19_3.toNat : Int)] : List Int)).map c_u8)), qn0] ⟨[0, 5, 6], [], [], [], [(65, 1005)], [], []⟩ (aC (sx_ob hx19_3) (aC (ap_obx c_u8 hd2001) (aC (app_obx c_u8 w0_1005 ([(x19_3.toNat : Int)] : List Int)) aN))) (by kernel_rfl) ?_
  exact k_n m hlt (w64 (v0_6_0 + 1)) (w0_1005 ++ ([(x19_3.toNat : Int)] : List Int)) _ h (convX_fits (v := ⟨[0, 5, 6], [], [], [], [(1005, 1005)], [], []⟩) (s' := LS.mk 120 [(0, aS a0), (5, .ref 1005), (6, aI .i64 (w64 (v0_6_0 + 1)))] [(1005, some (.row 5 1 ((w0_1005 ++ ([(x19_3.toNat : Int)] : List Int)).map c_u8)))]) (by kernel_rfl))
set_option maxRecDepth 100000 in
theorem hindcastref03_Read_l2_ok (n : Nat)  (a0 : (List UInt8)) (v0_6_0 : Int) (v2_8_0 : Int) (w0_1005 : (List Int)) (r_ : ((List UInt8) × Int × Bool)) (Q' : Exit → St → Prop) (kr : ∀ (ns : List (Nat × Nat × Nat)) (s : LS) (x : ((List UInt8) × Int × Bool)), retX Try.prog ns [.tmp 2, .tmp 3, .tmp 4] s = some (.tup [aS x.1, aI .i64 x.2.1, aB x.2.2]) → x = r_ → Q' .ret s.st) (k_x_3 : ∀ (q : Nat), q < n → ∀  (s' : LS), recN hindcastref03_Read_B q (.j5 a0 v0_6_0 w0_1005) = some r_ → Fits s'.st (LS.mk 120 [(0, aS a0), (5, .ref 1005), (6, aI .i64 (w64 (v0_6_0 + 1)))] [(1005, some (.row 5 1 (w0_1005.map c_u8)))]).st → Q' (.exit 3) s'.st) (h : recN hindcastref03_Read_B n (.l2 a0 v0_6_0 v2_8_0 w0_1005) = some r_) : W Try.prog (subC (bodyC Try.prog 58) [1, 1, 1, 0, 1, 0, 0, 1, 0, 0, 1, 1, 1, 1, 1, 1, 1, 0, 1, 1, 1, 1, 1, 1, 1, 0, 0, 1, 0]) (LS.mk 120 [(0, aS a0), (5, .ref 1005), (6, aI .i64 (w64 (v0_6_0 + 1))), (8, aI .i64 v2_8_0)] [(1005, some (.row 5 1 (w0_1005.map c_u8)))]).st Q' := by
  refine W_fix (σ := Int) (fun m x_ => m ≤ n ∧ recN hindcastref03_Read_B m (.l2 a0 v0_6_0 x_ w0_1005) = some r_) (fun x_ => LS.mk 120 [(0, aS a0), (5, .ref 1005), (6, aI .i64 (w64 (v0_6_0 + 1))), (8, aI .i64 x_)] [(1005, some (.row 5 1 (w0_1005.map c_u8)))]) (fun x hx => by cases hx.2) (fun _ _ => rfl) ?_ n (v2_8_0) ⟨Nat.le_refl _, h⟩
  clear h
  rintro m v2_8_0 ⟨hlt, h⟩
  replace h : hindcastref03_Read_l2_b (recN hindcastref03_Read_B m) a0 v0_6_0 v2_8_0 w0_1005 = some r_ := h
  unfold hindcastref03_Read_l2_b at h
  refine W_seq ?_
  refine W_seq ?_
  refine W_y (s' := LS.mk 120 [(0, aS a0), (5, .ref 1005), (6, aI .i64 (w64 (v0_6_0 + 1))), (8, aI .i64 v2_8_0), (79, aB (decide (v2_8_0 ≤ 2)))] [(1005, some (.row 5 1 (w0_1005.map c_u8)))]) mixed [qn0, qn0] ⟨[0, 5, 6, 8, 79], [], [], [], [(1005, 1005)], [], []⟩ aN (by kernel_rfl) ?_
  refine W_cond (decide (v2_8_0 ≤ 2)) (by kernel_rfl) (fun hb3001 => ?_) (fun hb3001 => ?_)
  · have hx3002 := hb3001
    have h := if_t h hx3002
    refine W_skip ?_
    refine W_seq ?_
    refine W_block ?_
    refine W_seq ?_
    refine (Bool.eq_false_or_eq_true (decide ((w64 ((w64 (v0_6_0 + 1)) + v2_8_0)) ≥ (a0.length : Int)))).elim (fun hb3003 => ?_) (fun hb3003 => ?_)
    · have hx3004 := hb3003
      have h := if_t h hx3004
      refine W_y (s' := LS.mk 120 [(0, aS a0), (5, .ref 1005), (6, aI .i64 (w64 (v0_6_0 + 1))), (8, aI .i64 v2_8_0), (96, aB true)] [(1005, some (.row 5 1 (w0_1005.map c_u8)))]) mixed [qn0, qn0, qn0, qn0, qn0, qn0, qn0, qt0, qt0, qt0, qt0, qt0, qt0, qt0, qn (.dec true)] ⟨[0, 5, 6, 8, 96], [], [], [], [(1005, 1005)], [], []⟩ (aC hx3004 (aC hx3004 (aC hx3004 (aC hx3004 (aC hx3004 (aC hx3004 (aC hx3004 (aC hx3004 aN)))))))) (by kernel_rfl) ?_
      refine W_cond true (by kernel_rfl) (fun _ => ?_) (fun hb => nomatch ((rfl : true = true).symm.trans hb))
      refine W_seq ?_
      refine W_y (s' := LS.mk 120 [(2, aS ([] : List UInt8)), (3, aI .i64 (w64 ((w64 (v0_6_0 + 1)) + v2_8_0))), (4, aB false)] []) mixed [qn0, qn0, qn0, qn0, qn0, qn0] ⟨[2, 3, 4], [], [], [], [], [], []⟩ aN (by kernel_rfl) ?_
      refine W_ret ?_
      exact kr [] _ _ (by kernel_rfl) (Option.some.inj h)
    · have hx3004 := hb3003
      have h := if_f h hx3004
      obtain ⟨x27_11, hx27_11, h⟩ := bind_ok h
      obtain ⟨r27_12, hr27_12, h⟩ := bind_ok h
      have hr27_12 := hindcastref03_value_ok hr27_12
      refine W_y (s' := LS.mk 120 [(0, aS a0), (5, .ref 1005), (6, aI .i64 (w64 (v0_6_0 + 1))), (8, aI .i64 v2_8_0), (96, aB (decide (r27_12 < 0)))] [(1005, some (.row 5 1 (w0_1005.map c_u8)))]) mixed [qn0, qn0, qn0, qn0, qn0, qn0, qn0, qf0, qf0, qf0, qf0, qf (.sx (Int.toNat (w64 ((w64 (v0_6_0 + 1)) + v2_8_0))) x27_11), qf (.call [] (aI .i64 r27_12)), qf0, qn (.dec false)] ⟨[0, 5, 6, 8, 96], [], [], [], [(1005, 1005)], [], []⟩ (aC hx3004 (aC hx3004 (aC hx3004 (aC hx3004 (aC hx3004 (aC (sx_ob hx27_11) (aC hx3004 (aC hr27_12 (aC hx3004 (aC hx3004 aN)))))))))) (by kernel_rfl) ?_
      refine W_cond (decide (r27_12 < 0)) (by kernel_rfl) (fun hb3005 => ?_) (fun hb3005 => ?_)
      · have hx3006 := hb3005
        have h := if_t h hx3006
        refine W_seq ?_
        refine W_y (s' := LS.mk 120 [(2, aS ([] : List UInt8)), (3, aI .i64 (w64 ((w64 (v0_6_0 + 1)) + v2_8_0))), (4, aB false)] []) mixed [qn0, qn0, qn0, qn0, qn0, qn0] ⟨[2, 3, 4], [], [], [], [], [], []⟩ aN (by kernel_rfl) ?_
        refine W_ret ?_
        exact kr [] _ _ (by kernel_rfl) (Option.some.inj h)
      · have hx3006 := hb3005
        have h := if_f h hx3006
        refine W_skip ?_
        refine W_y (s' := LS.mk 120 [(0, aS a0), (5, .ref 1005), (6, aI .i64 (w64 (v0_6_0 + 1))), (8, aI .i64 (w64 (v2_8_0 + 1)))] [(1005, some (.row 5 1 (w0_1005.map c_u8)))]) mixed [qn0, qn0, qn0] ⟨[0, 5, 6, 8], [], [], [], [(1005, 1005)], [], []⟩ aN (by kernel_rfl) ?_
        exact ⟨m, ((w64 (v2_8_0 + 1))), Nat.le_refl _, ⟨Nat.le_of_lt hlt, h⟩, convX_fits (v := ⟨[0, 5, 6, 8], [], [], [], [(1005, 1005)], [], []⟩) (s' := LS.mk 120 [(0, aS a0), (5, .ref 1005), (6, aI .i64 (w64 (v0_6_0 + 1))), (8, aI .i64 (w64 (v2_8_0 + 1)))] [(1005, some (.row 5 1 (w0_1005.map c_u8)))]) (by kernel_rfl)⟩
  · have hx3002 := hb3001
    have h := if_f h hx3002
    refine W_exit ?_
    exact k_x_3 m hlt  _ h (convX_fits (v := ⟨[0, 5, 6], [], [], [], [(1005, 1005)], [], []⟩) (s' := LS.mk 120 [(0, aS a0), (5, .ref 1005), (6, aI .i64 (w64 (v0_6_0 + 1)))] [(1005, some (.row 5 1 (w0_1005.map c_u8)))]) (by kernel_rfl))
set_option maxRecDepth 100000 in
theorem hindcastref03_Read_j3_ok (n : Nat)  (a0 : (List UInt8)) (r_ : ((List UInt8) × Int × Bool)) (Q' : Exit → St → Prop) (kr : ∀ (ns : List (Nat × Nat × Nat)) (s : LS) (x : ((List UInt8) × Int × Bool)), retX Try.prog ns [.tmp 2, .tmp 3, .tmp 4] s = some (.tup [aS x.1, aI .i64 x.2.1, aB x.2.2]) → x = r_ → Q' .ret s.st)  (h : recN hindcastref03_Read_B n (.j3 a0) = some r_) : W Try.prog (subC (bodyC Try.prog 58) [1, 1, 1, 1]) (LS.mk 120 [(0, aS a0)] []).st Q' := by
  cases n with
  | zero => cases h
  | succ m =>
  have hlt : m < m + 1 := Nat.lt_succ_self m
  replace h : hindcastref03_Read_j3_b (recN hindcastref03_Read_B m) a0 = some r_ := h
  unfold hindcastref03_Read_j3_b at h
  refine W_seq ?_
  refine W_y (s' := LS.mk 120 [(2, aS ([] : List UInt8)), (3, aI .i64 (a0.length : Int)), (4, aB false)] []) mixed [qn0, qn0, qn0, qn0, qn0] ⟨[2, 3, 4], [], [], [], [], [], []⟩ aN (by kernel_rfl) ?_
  refine W_ret ?_
  exact kr [] _ _ (by kernel_rfl) (Option.some.inj h)
set_option maxRecDepth 100000 in
theorem hindcastref03_Read_j4_ok (n : Nat)  (a0 : (List UInt8)) (v4_6_0 : Int) (w4_1005 : (List Int)) (r_ : ((List UInt8) × Int × Bool)) (Q' : Exit → St → Prop) (kr : ∀ (ns : List (Nat × Nat × Nat)) (s : LS) (x : ((List UInt8) × Int × Bool)), retX Try.prog ns [.tmp 2, .tmp 3, .tmp 4] s = some (.tup [aS x.1, aI .i64 x.2.1, aB x.2.2]) → x = r_ → Q' .ret s.st) (k_n : ∀ (q : Nat), q < n → ∀ (v0_6_0 : Int) (w0_1005 : (List Int)) (s' : LS), recN hindcastref03_Read_B q (.l0 a0 v0_6_0 w0_1005) = some r_ → Fits s'.st (LS.mk 120 [(0, aS a0), (5, .ref 1005), (6, aI .i64 v0_6_0)] [(1005, some (.row 5 1 (w0_1005.map c_u8)))]).st → Q' .normal s'.st) (h : recN hindcastref03_Read_B n (.j4 a0 v4_6_0 w4_1005) = some r_) : W Try.prog (subC (bodyC Try.prog 58) [1, 1, 1, 0, 1, 0, 0, 1, 1]) (LS.mk 120 [(0, aS a0), (5, .ref 1005), (6, aI .i64 v4_6_0)] [(1005, some (.row 5 1 (w4_1005.map c_u8)))]).st Q' := by
  cases n with
  | zero => cases h
  | succ m =>
  have hlt : m < m + 1 := Nat.lt_succ_self m
  replace h : hindcastref03_Read_j4_b (recN hindcastref03_Read_B m) a0 v4_6_0 w4_1005 = some r_ := h
  unfold hindcastref03_Read_j4_b at h
  refine W_y (s' := LS.mk 120 [(0, aS a0), (5, .ref 1005), (6, aI .i64 (w64 (v4_6_0 + 1)))] [(1005, some (.row 5 1 (w4_1005.map c_u8)))]) mixed [qn0, qn0, qn0] ⟨[0, 5, 6], [], [], [], [(1005, 1005)], [], []⟩ aN (by kernel_rfl) ?_
  exact k_n m hlt (w64 (v4_6_0 + 1)) w4_1005 _ h (convX_fits (v := ⟨[0, 5, 6], [], [], [], [(1005, 1005)], [], []⟩) (s' := LS.mk 120 [(0, aS a0), (5, .ref 1005), (6, aI .i64 (w64 (v4_6_0 + 1)))] [(1005, some (.row 5 1 (w4_1005.map c_u8)))]) (by kernel_rfl))
set_option maxRecDepth 100000 in
theorem hindcastref03_Read_j5_ok (n : Nat)  (a0 : (List UInt8)) (v0_6_0 : Int) (w0_1005 : (List Int)) (r_ : ((List UInt8) × Int × Bool)) (Q' : Exit → St → Prop) (kr : ∀ (ns : List (Nat × Nat × Nat)) (s : LS) (x : ((List UInt8) × Int × Bool)), retX Try.prog ns [.tmp 2, .tmp 3, .tmp 4] s = some (.tup [aS x.1, aI .i64 x.2.1, aB x.2.2]) → x = r_ → Q' .ret s.st) (k_n : ∀ (q : Nat), q < n → ∀ (v4_6_0 : Int) (w4_1005 : (List Int)) (s' : LS), recN hindcastref03_Read_B q (.j4 a0 v4_6_0 w4_1005) = some r_ → Fits s'.st (LS.mk 120 [(0, aS a0), (5, .ref 1005), (6, aI .i64 v4_6_0)] [(1005, some (.row 5 1 (w4_1005.map c_u8)))]).st → Q' .normal s'.st) (h : recN hindcastref03_Read_B n (.j5 a0 v0_6_0 w0_1005) = some r_) : W Try.prog (subC (bodyC Try.prog 58) [1, 1, 1, 0, 1, 0, 0, 1, 0, 0, 1, 1, 1, 1, 1, 1, 1, 0, 1, 1, 1, 1, 1, 1, 1, 0, 1]) (LS.mk 120 [(0, aS a0), (5, .ref 1005), (6, aI .i64 (w64 (v0_6_0 + 1)))] [(1005, some (.row 5 1 (w0_1005.map c_u8)))]).st Q' := by
  cases n with
  | zero => cases h
  | succ m =>
  have hlt : m < m + 1 := Nat.lt_succ_self m
  replace h : hindcastref03_Read_j5_b (recN hindcastref03_Read_B m) a0 v0_6_0 w0_1005 = some r_ := h
  unfold hindcastref03_Read_j5_b at h
  refine W_seq ?_
  obtain ⟨x30_4, hx30_4, h⟩ := bind_ok h
  obtain ⟨r30_5, hr30_5, h⟩ := bind_ok h
  have hr30_5 := hindcastref03_value_ok hr30_5
  obtain ⟨x30_10, hx30_10, h⟩ := bind_ok h
  obtain ⟨r30_11, hr30_11, h⟩ := bind_ok h
  have hr30_11 := hindcastref03_value_ok hr30_11
  obtain ⟨hd6001, h⟩ := ite_ok h
  refine W_y (s' := LS.mk 120 [(0, aS a0), (5, .ref 1005), (6, aI .i64 (w64 (v0_6_0 + 1)))] [(1005, some (.row 5 1 ((w0_1005 ++ ([(IntKind.wrap .u8 (w64 ((w64 (r30_5 * 16)) + r30_11)))] : List Int)).map c_u8)))]) mixed [qn0, qn0, qn0, qn0, qn (.sx (Int.toNat (w64 ((w64 (v0_6_0 + 1)) + 1))) x30_4), qn (.call [] (aI .i64 r30_5)), qn0, qn0, qn0, qn0, qn (.sx (Int.toNat (w64 ((w64 (v0_6_0 + 1)) + 2))) x30_10), qn (.call [] (aI .i64 r30_11)), qn0, qn0, qn0, qn (.rows ((w0_1005 ++ ([(IntKind.wrap .u8 (w64 ((w64 (r30_5 * 16)) + r30_11)))] : List Int)).map c_u8)), qn0] ⟨[0, 5, 6], [], [], [], [(115, 1005)], [], []⟩ (aC (sx_ob hx30_4) (aC hr30_5 (aC (sx_ob hx30_10) (aC hr30_11 (aC (ap_obx c_u8 hd6001) (aC (app_obx c_u8 w0_1005 ([(IntKind.wrap .u8 (w64 ((w64 (r30_5 * 16)) + r30_11)))] : List Int)) aN)))))) (by kernel_rfl) ?_
  refine W_y (s' := LS.mk 120 [(0, aS a0), (5, .ref 1005), (6, aI .i64 (w64 ((w64 (v0_6_0 + 1)) + 2)))] [(1005, some (.row 5 1 ((w0_1005 ++ ([(IntKind.wrap .u8 (w64 ((w64 (r30_5 * 16)) + r30_11)))] : List Int)).map c_u8)))]) mixed [qn0, qn0, qn0] ⟨[0, 5, 6], [], [], [], [(1005, 1005)], [], []⟩ aN (by kernel_rfl) ?_
  exact k_n m hlt (w64 ((w64 (v0_6_0 + 1)) + 2)) (w0_1005 ++ ([(IntKind.wrap .u8 (w64 ((w64 (r30_5 * 16)) + r30_11)))] : List Int)) _ h (convX_fits (v := ⟨[0, 5, 6], [], [], [], [(1005, 1005)], [], []⟩) (s' := LS.mk 120 [(0, aS a0), (5, .ref 1005), (6, aI .i64 (w64 ((w64 (v0_6_0 + 1)) + 2)))] [(1005, some (.row 5 1 ((w0_1005 ++ ([(IntKind.wrap .u8 (w64 ((w64 (r30_5 * 16)) + r30_11)))] : List Int)).map c_u8)))]) (by kernel_rfl))
set_option maxRecDepth 100000 in
theorem hindcastref03_Read_l0_ok (n : Nat)  (a0 : (List UInt8)) (v0_6_0 : Int) (w0_1005 : (List Int)) (r_ : ((List UInt8) × Int × Bool)) (Q' : Exit → St → Prop) (kr : ∀ (ns : List (Nat × Nat × Nat)) (s : LS) (x : ((List UInt8) × Int × Bool)), retX Try.prog ns [.tmp 2, .tmp 3, .tmp 4] s = some (.tup [aS x.1, aI .i64 x.2.1, aB x.2.2]) → x = r_ → Q' .ret s.st) (k_x_0 : ∀ (q : Nat), q < n → ∀  (s' : LS), recN hindcastref03_Read_B q (.j3 a0) = some r_ → Fits s'.st (LS.mk 120 [(0, aS a0)] []).st → Q' (.exit 0) s'.st) (h : recN hindcastref03_Read_B n (.l0 a0 v0_6_0 w0_1005) = some r_) : W Try.prog (subC (bodyC Try.prog 58) [1, 1, 1, 0, 1, 0]) (LS.mk 120 [(0, aS a0), (5, .ref 1005), (6, aI .i64 v0_6_0)] [(1005, some (.row 5 1 (w0_1005.map c_u8)))]).st Q' := by
  refine W_fix (σ := Int × (List Int)) (fun m x_ => m ≤ n ∧ recN hindcastref03_Read_B m (.l0 a0 x_.1 x_.2) = some r_) (fun x_ => LS.mk 120 [(0, aS a0), (5, .ref 1005), (6, aI .i64 x_.1)] [(1005, some (.row 5 1 (x_.2.map c_u8)))]) (fun x hx => by cases hx.2) (fun _ _ => rfl) ?_ n (v0_6_0, w0_1005) ⟨Nat.le_refl _, h⟩
  clear h
  rintro m ⟨v0_6_0, w0_1005⟩ ⟨hlt, h⟩
  replace h : hindcastref03_Read_l0_b (recN hindcastref03_Read_B m) a0 v0_6_0 w0_1005 = some r_ := h
  unfold hindcastref03_Read_l0_b at h
  refine W_seq ?_
  refine W_seq ?_
  refine W_y (s' := LS.mk 120 [(0, aS a0), (5, .ref 1005), (6, aI .i64 v0_6_0), (21, aB (decide (v0_6_0 < (a0.length : Int))))] [(1005, some (.row 5 1 (w0_1005.map c_u8)))]) mixed [qn0, qn0, qn0, qn0] ⟨[0, 5, 6, 21], [], [], [], [(1005, 1005)], [], []⟩ aN (by kernel_rfl) ?_
  refine W_cond (decide (v0_6_0 < (a0.length : Int))) (by kernel_rfl) (fun hb1001 => ?_) (fun hb1001 => ?_)
  · have hx1002 := hb1001
    have h := if_t h hx1002
    refine W_skip ?_
    refine W_seq ?_
    refine W_block ?_
    refine W_seq ?_
    obtain ⟨x6_2, hx6_2, h⟩ := bind_ok h
    refine W_y (s' := LS.mk 120 [(0, aS a0), (5, .ref 1005), (6, aI .i64 v0_6_0), (7, aI .u8 (x6_2.toNat : Int))] [(1005, some (.row 5 1 (w0_1005.map c_u8)))]) mixed [qn0, qn0, qn (.sx (Int.toNat v0_6_0) x6_2), qn0] ⟨[0, 5, 6, 7], [], [], [], [(1005, 1005)], [], []⟩ (aC (sx_ob hx6_2) aN) (by kernel_rfl) ?_
    refine W_seq ?_
    refine W_seq ?_
    refine (Bool.eq_false_or_eq_true (decide ((x6_2.toNat : Int) < 32))).elim (fun hb1003 => ?_) (fun hb1003 => ?_)
    · have hx1004 := hb1003
      have h := if_t h hx1004
      refine W_y (s' := LS.mk 120 [(0, aS a0), (5, .ref 1005), (6, aI .i64 v0_6_0), (7, aI .u8 (x6_2.toNat : Int)), (32, aB true)] [(1005, some (.row 5 1 (w0_1005.map c_u8)))]) mixed [qn0, qn0, qn0, qt0, qt0, qn (.dec true)] ⟨[0, 5, 6, 7, 32], [], [], [], [(1005, 1005)], [], []⟩ (aC hx1004 (aC hx1004 (aC hx1004 aN))) (by kernel_rfl) ?_
      refine W_cond true (by kernel_rfl) (fun _ => ?_) (fun hb => nomatch ((rfl : true = true).symm.trans hb))
      refine W_seq ?_
      refine W_y (s' := LS.mk 120 [(2, aS ([] : List UInt8)), (3, aI .i64 v0_6_0), (4, aB false)] []) mixed [qn0, qn0, qn0, qn0] ⟨[2, 3, 4], [], [], [], [], [], []⟩ aN (by kernel_rfl) ?_
      refine W_ret ?_
      exact kr [] _ _ (by kernel_rfl) (Option.some.inj h)
    · have hx1004 := hb1003
      have h := if_f h hx1004
      refine W_y (s' := LS.mk 120 [(0, aS a0), (5, .ref 1005), (6, aI .i64 v0_6_0), (7, aI .u8 (x6_2.toNat : Int)), (32, aB (decide ((x6_2.toNat : Int) > 126)))] [(1005, some (.row 5 1 (w0_1005.map c_u8)))]) mixed [qn0, qn0, qn0, qf0, qf0, qn (.dec false)] ⟨[0, 5, 6, 7, 32], [], [], [], [(1005, 1005)], [], []⟩ (aC hx1004 (aC hx1004 (aC hx1004 aN))) (by kernel_rfl) ?_
      refine W_cond (decide ((x6_2.toNat : Int) > 126)) (by kernel_rfl) (fun hb1005 => ?_) (fun hb1005 => ?_)
      · have hx1006 := hb1005
        have h := if_t h hx1006
        refine W_seq ?_
        refine W_y (s' := LS.mk 120 [(2, aS ([] : List UInt8)), (3, aI .i64 v0_6_0), (4, aB false)] []) mixed [qn0, qn0, qn0, qn0] ⟨[2, 3, 4], [], [], [], [], [], []⟩ aN (by kernel_rfl) ?_
        refine W_ret ?_
        exact kr [] _ _ (by kernel_rfl) (Option.some.inj h)
      · have hx1006 := hb1005
        have h := if_f h hx1006
        refine W_skip ?_
        refine W_seq ?_
        refine W_seq ?_
        refine W_y (s' := LS.mk 120 [(0, aS a0), (5, .ref 1005), (6, aI .i64 v0_6_0), (7, aI .u8 (x6_2.toNat : Int)), (35, aB (decide ((x6_2.toNat : Int) = 34)))] [(1005, some (.row 5 1 (w0_1005.map c_u8)))]) mixed [qn0, qn0] ⟨[0, 5, 6, 7, 35], [], [], [], [(1005, 1005)], [], []⟩ aN (by kernel_rfl) ?_
        refine W_cond (decide ((x6_2.toNat : Int) = 34)) (by kernel_rfl) (fun hb1007 => ?_) (fun hb1007 => ?_)
        · have hx1008 := hb1007
          have h := if_t h hx1008
          refine W_seq ?_
          obtain ⟨hd1009, h⟩ := ite_ok h
          refine W_y (s' := LS.mk 120 [(2, aS (bytesS w0_1005)), (3, aI .i64 (w64 (v0_6_0 + 1))), (4, aB true)] []) mixed [qn0, qn (.quiet (aS (bytesS w0_1005))), qn0, qn0, qn0, qn0, qn0] ⟨[2, 3, 4], [], [], [], [], [], []⟩ (aC (show Quiet Try.prog (opAt (subC (bodyC Try.prog 58) [1, 1, 1, 0, 1, 0, 0, 1, 0, 0, 1, 1, 0, 1, 0, 0]) 1) [.t (.sl 1 (w0_1005.map c_u8))] (aS (bytesS w0_1005)) from bytesS_ob (e := 5) (by rfl) (by kernel_rfl) (by kernel_rfl) (by kernel_rfl) c_u8 rfl hd1009) aN) (by kernel_rfl) ?_
          refine W_ret ?_
          exact kr [] _ _ (by kernel_rfl) (Option.some.inj h)
        · have hx1008 := hb1007
          have h := if_f h hx1008
          refine W_skip ?_
          refine W_seq ?_
          refine W_seq ?_
          refine W_y (s' := LS.mk 120 [(0, aS a0), (5, .ref 1005), (6, aI .i64 v0_6_0), (7, aI .u8 (x6_2.toNat : Int)), (41, aB (!(decide ((x6_2.toNat : Int) = 92))))] [(1005, some (.row 5 1 (w0_1005.map c_u8)))]) mixed [qn0, qn0] ⟨[0, 5, 6, 7, 41], [], [], [], [(1005, 1005)], [], []⟩ aN (by kernel_rfl) ?_
          refine W_cond (!(decide ((x6_2.toNat : Int) = 92))) (by kernel_rfl) (fun hb1010 => ?_) (fun hb1010 => ?_)
          · have hx1011 : (decide ((x6_2.toNat : Int) = 92)) = false := (bnot_t hb1010)
            have h := if_f h hx1011
            refine W_seq ?_
            obtain ⟨hd1012, h⟩ := ite_ok h
            refine W_y (s' := LS.mk 120 [(0, aS a0), (5, .ref 1005), (6, aI .i64 v0_6_0)] [(1005, some (.row 5 1 ((w0_1005 ++ ([(x6_2.toNat : Int)] : List Int)).map c_u8)))]) mixed [qn0, qn0, qn0, qn (.rows ((w0_1005 ++ ([(x6_2.toNat : Int)] : List Int)).map c_u8)), qn0] ⟨[0, 5, 6], [], [], [], [(45, 1005)], [], []⟩ (aC (ap_obx c_u8 hd1012) (aC (app_obx c_u8 w0_1005 ([(x6_2.toNat : Int)] : List Int)) aN)) (by kernel_rfl) ?_
            refine W_exit ?_
            exact W_conv (s' := LS.mk 120 [(0, aS a0), (5, .ref 1005), (6, aI .i64 v0_6_0)] [(1005, some (.row 5 1 ((w0_1005 ++ ([(x6_2.toNat : Int)] : List Int)).map c_u8)))]) ⟨[0, 5, 6], [], [], [], [(1005, 1005)], [], []⟩ (by kernel_rfl) (hindcastref03_Read_j4_ok m a0 v0_6_0 (w0_1005 ++ ([(x6_2.toNat : Int)] : List Int)) r_ _ kr (fun q1 hq1 v0_6_0 w0_1005 s' h hf => ⟨q1, (v0_6_0, w0_1005), Nat.le_of_lt hq1, ⟨Nat.le_of_lt (Nat.lt_trans hq1 hlt), h⟩, hf⟩) h)
          · have hx1011 : (decide ((x6_2.toNat : Int) = 92)) = true := (bnot_f hb1010)
            have h := if_t h hx1011
            refine W_skip ?_
            refine W_seq ?_
            refine W_y (s' := LS.mk 120 [(0, aS a0), (5, .ref 1005), (6, aI .i64 (w64 (v0_6_0 + 1)))] [(1005, some (.row 5 1 (w0_1005.map c_u8)))]) mixed [qn0, qn0, qn0] ⟨[0, 5, 6], [], [], [], [(1005, 1005)], [], []⟩ aN (by kernel_rfl) ?_
            refine W_seq ?_
            refine W_seq ?_
            refine W_y (s' := LS.mk 120 [(0, aS a0), (5, .ref 1005), (6, aI .i64 (w64 (v0_6_0 + 1))), (51, aB (decide ((w64 (v0_6_0 + 1)) ≥ (a0.length : Int))))] [(1005, some (.row 5 1 (w0_1005.map c_u8)))]) mixed [qn0, qn0, qn0, qn0] ⟨[0, 5, 6, 51], [], [], [], [(1005, 1005)], [], []⟩ aN (by kernel_rfl) ?_
            refine W_cond (decide ((w64 (v0_6_0 + 1)) ≥ (a0.length : Int))) (by kernel_rfl) (fun hb1013 => ?_) (fun hb1013 => ?_)
            · have hx1014 := hb1013
              have h := if_t h hx1014
              refine W_seq ?_
              refine W_y (s' := LS.mk 120 [(2, aS ([] : List UInt8)), (3, aI .i64 (w64 (v0_6_0 + 1))), (4, aB false)] []) mixed [qn0, qn0, qn0, qn0] ⟨[2, 3, 4], [], [], [], [], [], []⟩ aN (by kernel_rfl) ?_
              refine W_ret ?_
              exact kr [] _ _ (by kernel_rfl) (Option.some.inj h)
            · have hx1014 := hb1013
              have h := if_f h hx1014
              refine W_skip ?_
              refine W_seq ?_
              obtain ⟨x16_2, hx16_2, h⟩ := bind_ok h
              refine W_y (s' := LS.mk 120 [(0, aS a0), (5, .ref 1005), (6, aI .i64 (w64 (v0_6_0 + 1))), (55, aI .u8 (x16_2.toNat : Int))] [(1005, some (.row 5 1 (w0_1005.map c_u8)))]) mixed [qn0, qn0, qn (.sx (Int.toNat (w64 (v0_6_0 + 1))) x16_2)] ⟨[0, 5, 6, 55], [], [], [], [(1005, 1005)], [], []⟩ (aC (sx_ob hx16_2) aN) (by kernel_rfl) ?_
              refine W_block ?_
              refine W_seq ?_
              refine W_seq ?_
              refine W_y (s' := LS.mk 120 [(0, aS a0), (5, .ref 1005), (6, aI .i64 (w64 (v0_6_0 + 1))), (55, aI .u8 (x16_2.toNat : Int)), (57, aB (decide ((x16_2.toNat : Int) = 34)))] [(1005, some (.row 5 1 (w0_1005.map c_u8)))]) mixed [qn0, qn0] ⟨[0, 5, 6, 55, 57], [], [], [], [(1005, 1005)], [], []⟩ aN (by kernel_rfl) ?_
              refine W_cond (decide ((x16_2.toNat : Int) = 34)) (by kernel_rfl) (fun hb1015 => ?_) (fun hb1015 => ?_)
              · have hx1016 := hb1015
                have h := if_t h hx1016
                refine W_skip ?_
                refine W_cond (decide ((x16_2.toNat : Int) = 34)) (by kernel_rfl) (fun _ => ?_) (fun hb => nomatch ((hx1016 : (decide ((x16_2.toNat : Int) = 34)) = true).symm.trans hb))
                exact W_conv (s' := LS.mk 120 [(0, aS a0), (5, .ref 1005), (6, aI .i64 (w64 (v0_6_0 + 1)))] [(1005, some (.row 5 1 (w0_1005.map c_u8)))]) ⟨[0, 5, 6], [], [], [], [(1005, 1005)], [], []⟩ (by kernel_rfl) (hindcastref03_Read_j1_ok m a0 v0_6_0 w0_1005 r_ _ kr (fun q1 hq1 v4_6_0 w4_1005 s' h hf => W_pre hf (hindcastref03_Read_j4_ok q1 a0 v4_6_0 w4_1005 r_ _ kr (fun q2 hq2 v0_6_0 w0_1005 s' h hf => ⟨q2, (v0_6_0, w0_1005), Nat.le_of_lt (Nat.lt_trans hq2 hq1), ⟨Nat.le_of_lt (Nat.lt_trans hq2 (Nat.lt_trans hq1 hlt)), h⟩, hf⟩) h)) h)
              · have hx1016 := hb1015
                have h := if_f h hx1016
                refine W_y (s' := LS.mk 120 [(0, aS a0), (5, .ref 1005), (6, aI .i64 (w64 (v0_6_0 + 1))), (55, aI .u8 (x16_2.toNat : Int)), (57, aB (decide ((x16_2.toNat : Int) = 92)))] [(1005, some (.row 5 1 (w0_1005.map c_u8)))]) mixed [qn0, qn0] ⟨[0, 5, 6, 55, 57], [], [], [], [(1005, 1005)], [], []⟩ aN (by kernel_rfl) ?_
                refine W_cond (decide ((x16_2.toNat : Int) = 92)) (by kernel_rfl) (fun hb1017 => ?_) (fun hb1017 => ?_)
                · have hx1018 := hb1017
                  have h := if_t h hx1018
                  exact W_conv (s' := LS.mk 120 [(0, aS a0), (5, .ref 1005), (6, aI .i64 (w64 (v0_6_0 + 1)))] [(1005, some (.row 5 1 (w0_1005.map c_u8)))]) ⟨[0, 5, 6], [], [], [], [(1005, 1005)], [], []⟩ (by kernel_rfl) (hindcastref03_Read_j1_ok m a0 v0_6_0 w0_1005 r_ _ kr (fun q1 hq1 v4_6_0 w4_1005 s' h hf => W_pre hf (hindcastref03_Read_j4_ok q1 a0 v4_6_0 w4_1005 r_ _ kr (fun q2 hq2 v0_6_0 w0_1005 s' h hf => ⟨q2, (v0_6_0, w0_1005), Nat.le_of_lt (Nat.lt_trans hq2 hq1), ⟨Nat.le_of_lt (Nat.lt_trans hq2 (Nat.lt_trans hq1 hlt)), h⟩, hf⟩) h)) h)
                · have hx1018 := hb1017
                  have h := if_f h hx1018
                  refine W_seq ?_
                  refine W_y (s' := LS.mk 120 [(0, aS a0), (5, .ref 1005), (6, aI .i64 (w64 (v0_6_0 + 1))), (55, aI .u8 (x16_2.toNat : Int)), (66, aB (decide ((x16_2.toNat : Int) = 110)))] [(1005, some (.row 5 1 (w0_1005.map c_u8)))]) mixed [qn0, qn0] ⟨[0, 5, 6, 55, 66], [], [], [], [(1005, 1005)], [], []⟩ aN (by kernel_rfl) ?_
                  refine W_cond (decide ((x16_2.toNat : Int) = 110)) (by kernel_rfl) (fun hb1019 => ?_) (fun hb1019 => ?_)
                  · have hx1020 := hb1019
                    have h := if_t h hx1020
                    obtain ⟨hd1021, h⟩ := ite_ok h
                    refine W_y (s' := LS.mk 120 [(0, aS a0), (5, .ref 1005), (6, aI .i64 (w64 (v0_6_0 + 1)))] [(1005, some (.row 5 1 ((w0_1005 ++ ([10] : List Int)).map c_u8)))]) mixed [qn0, qn0, qn (.rows ((w0_1005 ++ ([10] : List Int)).map c_u8)), qn0] ⟨[0, 5, 6], [], [], [], [(70, 1005)], [], []⟩ (aC (ap_obx c_u8 hd1021) (aC (app_obx c_u8 w0_1005 ([10] : List Int)) aN)) (by kernel_rfl) ?_
                    exact W_conv (s' := LS.mk 120 [(0, aS a0), (5, .ref 1005), (6, aI .i64 (w64 (v0_6_0 + 1)))] [(1005, some (.row 5 1 ((w0_1005 ++ ([10] : List Int)).map c_u8)))]) ⟨[0, 5, 6], [], [], [], [(1005, 1005)], [], []⟩ (by kernel_rfl) (hindcastref03_Read_j4_ok m a0 (w64 (v0_6_0 + 1)) (w0_1005 ++ ([10] : List Int)) r_ _ kr (fun q1 hq1 v0_6_0 w0_1005 s' h hf => ⟨q1, (v0_6_0, w0_1005), Nat.le_of_lt hq1, ⟨Nat.le_of_lt (Nat.lt_trans hq1 hlt), h⟩, hf⟩) h)
                  · have hx1020 := hb1019
                    have h := if_f h hx1020
                    refine W_seq ?_
                    refine W_y (s' := LS.mk 120 [(0, aS a0), (5, .ref 1005), (6, aI .i64 (w64 (v0_6_0 + 1))), (55, aI .u8 (x16_2.toNat : Int)), (71, aB (decide ((x16_2.toNat : Int) = 116)))] [(1005, some (.row 5 1 (w0_1005.map c_u8)))]) mixed [qn0, qn0] ⟨[0, 5, 6, 55, 71], [], [], [], [(1005, 1005)], [], []⟩ aN (by kernel_rfl) ?_
                    refine W_cond (decide ((x16_2.toNat : Int) = 116)) (by kernel_rfl) (fun hb1022 => ?_) (fun hb1022 => ?_)
                    · have hx1023 := hb1022
                      have h := if_t h hx1023
                      obtain ⟨hd1024, h⟩ := ite_ok h
                      refine W_y (s' := LS.mk 120 [(0, aS a0), (5, .ref 1005), (6, aI .i64 (w64 (v0_6_0 + 1)))] [(1005, some (.row 5 1 ((w0_1005 ++ ([9] : List Int)).map c_u8)))]) mixed [qn0, qn0, qn (.rows ((w0_1005 ++ ([9] : List Int)).map c_u8)), qn0] ⟨[0, 5, 6], [], [], [], [(75, 1005)], [], []⟩ (aC (ap_obx c_u8 hd1024) (aC (app_obx c_u8 w0_1005 ([9] : List Int)) aN)) (by kernel_rfl) ?_
                      exact W_conv (s' := LS.mk 120 [(0, aS a0), (5, .ref 1005), (6, aI .i64 (w64 (v0_6_0 + 1)))] [(1005, some (.row 5 1 ((w0_1005 ++ ([9] : List Int)).map c_u8)))]) ⟨[0, 5, 6], [], [], [], [(1005, 1005)], [], []⟩ (by kernel_rfl) (hindcastref03_Read_j4_ok m a0 (w64 (v0_6_0 + 1)) (w0_1005 ++ ([9] : List Int)) r_ _ kr (fun q1 hq1 v0_6_0 w0_1005 s' h hf => ⟨q1, (v0_6_0, w0_1005), Nat.le_of_lt hq1, ⟨Nat.le_of_lt (Nat.lt_trans hq1 hlt), h⟩, hf⟩) h)
                    · have hx1023 := hb1022
                      have h := if_f h hx1023
                      refine W_seq ?_
                      refine W_y (s' := LS.mk 120 [(0, aS a0), (5, .ref 1005), (6, aI .i64 (w64 (v0_6_0 + 1))), (76, aB (decide ((x16_2.toNat : Int) = 120)))] [(1005, some (.row 5 1 (w0_1005.map c_u8)))]) mixed [qn0, qn0] ⟨[0, 5, 6, 76], [], [], [], [(1005, 1005)], [], []⟩ aN (by kernel_rfl) ?_
                      refine W_cond (decide ((x16_2.toNat : Int) = 120)) (by kernel_rfl) (fun hb1025 => ?_) (fun hb1025 => ?_)
                      · have hx1026 := hb1025
                        have h := if_t h hx1026
                        refine W_seq ?_
                        refine W_seq ?_
                        refine W_y (s' := LS.mk 120 [(0, aS a0), (5, .ref 1005), (6, aI .i64 (w64 (v0_6_0 + 1))), (8, aI .i64 1)] [(1005, some (.row 5 1 (w0_1005.map c_u8)))]) mixed [qn0] ⟨[0, 5, 6, 8], [], [], [], [(1005, 1005)], [], []⟩ aN (by kernel_rfl) ?_
                        refine W_block ?_
                        exact W_conv (s' := LS.mk 120 [(0, aS a0), (5, .ref 1005), (6, aI .i64 (w64 (v0_6_0 + 1))), (8, aI .i64 1)] [(1005, some (.row 5 1 (w0_1005.map c_u8)))]) ⟨[0, 5, 6, 8], [], [], [], [(1005, 1005)], [], []⟩ (by kernel_rfl) (hindcastref03_Read_l2_ok m a0 v0_6_0 1 w0_1005 r_ _ kr (fun q1 hq1  s' h hf => W_pre hf (hindcastref03_Read_j5_ok q1 a0 v0_6_0 w0_1005 r_ _ kr (fun q2 hq2 v4_6_0 w4_1005 s' h hf => W_pre hf (hindcastref03_Read_j4_ok q2 a0 v4_6_0 w4_1005 r_ _ kr (fun q3 hq3 v0_6_0 w0_1005 s' h hf => ⟨q3, (v0_6_0, w0_1005), Nat.le_of_lt (Nat.lt_trans hq3 (Nat.lt_trans hq2 hq1)), ⟨Nat.le_of_lt (Nat.lt_trans hq3 (Nat.lt_trans hq2 (Nat.lt_trans hq1 hlt))), h⟩, hf⟩) h)) h)) h)
                      · have hx1026 := hb1025
                        have h := if_f h hx1026
                        refine W_seq ?_
                        refine W_y (s' := LS.mk 120 [(2, aS ([] : List UInt8)), (3, aI .i64 (w64 (v0_6_0 + 1))), (4, aB false)] []) mixed [qn0, qn0, qn0, qn0] ⟨[2, 3, 4], [], [], [], [], [], []⟩ aN (by kernel_rfl) ?_
                        refine W_ret ?_
                        exact kr [] _ _ (by kernel_rfl) (Option.some.inj h)
  · have hx1002 := hb1001
    have h := if_f h hx1002
    refine W_exit ?_
    exact k_x_0 m hlt  _ h (convX_fits (v := ⟨[0], [], [], [], [], [], []⟩) (s' := LS.mk 120 [(0, aS a0)] []) (by kernel_rfl))
noncomputable def hindcastref03_Read (a0 : (List UInt8)) : Option ((List UInt8) × Int × Bool) :=
  (if (a0.length : Int) = 0 then (some (([] : List UInt8), 0, false)) else ((getI a0 0).bind fun (x1_5 : UInt8) => (if (x1_5.toNat : Int) = 34 then hindcastref03_Read_l0 a0 1 ([] : List Int) else (some (([] : List UInt8), 0, false)))))
set_option maxRecDepth 100000 in
theorem hindcastref03_Read_ok {a0 : (List UInt8)} {r_ : ((List UInt8) × Int × Bool)} (h : hindcastref03_Read a0 = some r_) : R_hindcastref03_Read a0 r_ := by
  unfold hindcastref03_Read at h
  refine fn_pureX (fn := Try.f58) (by kernel_rfl) (c := subC (bodyC Try.prog 58) []) (by kernel_rfl) (by kernel_rfl) (Nat.le_of_ble_eq_true (by kernel_rfl)) ?_
  generalize hQ' : retQ Try.prog Try.f58 (.tup [aS r_.1, aI .i64 r_.2.1, aB r_.2.2]) = Q'
  have kr : ∀ (ns : List (Nat × Nat × Nat)) (s : LS) (x : ((List UInt8) × Int × Bool)), retX Try.prog ns [.tmp 2, .tmp 3, .tmp 4] s = some (.tup [aS x.1, aI .i64 x.2.1, aB x.2.2]) → x = r_ → Q' .ret s.st := by subst hQ'; intro ns s x hx hq; subst hq; exact ret_ok (fn := Try.f58) ns hx
  change W Try.prog _ (LS.mk 120 [(0, aS a0)] []).st Q'
  refine W_seq ?_
  refine W_y (s' := LS.mk 120 [(0, aS a0)] []) mixed [qn0, qn0, qn0] ⟨[0], [], [], [], [], [], []⟩ aN (by kernel_rfl) ?_
  refine W_seq ?_
  refine W_seq ?_
  refine (Bool.eq_false_or_eq_true (decide ((a0.length : Int) = 0))).elim (fun hb1 => ?_) (fun hb1 => ?_)
  · have hx2 := hb1
    have h := if_t h hx2
    refine W_y (s' := LS.mk 120 [(0, aS a0), (16, aB true)] []) mixed [qn0, qn0, qn0, qn0, qt0, qt0, qt0, qn (.dec true)] ⟨[0, 16], [], [], [], [], [], []⟩ (aC hx2 (aC hx2 (aC hx2 (aC hx2 aN)))) (by kernel_rfl) ?_
    refine W_cond true (by kernel_rfl) (fun _ => ?_) (fun hb => nomatch ((rfl : true = true).symm.trans hb))
    refine W_seq ?_
    refine W_y (s' := LS.mk 120 [(2, aS ([] : List UInt8)), (3, aI .i64 0), (4, aB false)] []) mixed [qn0, qn0, qn0] ⟨[2, 3, 4], [], [], [], [], [], []⟩ aN (by kernel_rfl) ?_
    refine W_ret ?_
    exact kr [] _ _ (by kernel_rfl) (Option.some.inj h)
  · have hx2 := hb1
    have h := if_f h hx2
    obtain ⟨x1_5, hx1_5, h⟩ := bind_ok h
    refine W_y (s' := LS.mk 120 [(0, aS a0), (16, aB (!(decide ((x1_5.toNat : Int) = 34))))] []) mixed [qn0, qn0, qn0, qn0, qf0, qf (.sx (Int.toNat 0) x1_5), qf0, qn (.dec false)] ⟨[0, 16], [], [], [], [], [], []⟩ (aC hx2 (aC hx2 (aC (sx_ob hx1_5) (aC hx2 (aC hx2 aN))))) (by kernel_rfl) ?_
    refine W_cond (!(decide ((x1_5.toNat : Int) = 34))) (by kernel_rfl) (fun hb3 => ?_) (fun hb3 => ?_)
    · have hx4 : (decide ((x1_5.toNat : Int) = 34)) = false := (bnot_t hb3)
      have h := if_f h hx4
      refine W_seq ?_
      refine W_y (s' := LS.mk 120 [(2, aS ([] : List UInt8)), (3, aI .i64 0), (4, aB false)] []) mixed [qn0, qn0, qn0] ⟨[2, 3, 4], [], [], [], [], [], []⟩ aN (by kernel_rfl) ?_
      refine W_ret ?_
      exact kr [] _ _ (by kernel_rfl) (Option.some.inj h)
    · have hx4 : (decide ((x1_5.toNat : Int) = 34)) = true := (bnot_f hb3)
      have h := if_t h hx4
      refine W_skip ?_
      refine W_seq ?_
      refine W_y (s' := LS.mk 120 [(0, aS a0), (5, .ref 1005)] [(1005, some (.row 5 1 (([] : List Int).map c_u8)))]) mixed [qn0, qn0] ⟨[0, 5], [], [], [], [(17, 1005)], [], []⟩ aN (by kernel_rfl) ?_
      refine W_seq ?_
      refine W_seq ?_
      refine W_y (s' := LS.mk 120 [(0, aS a0), (5, .ref 1005), (6, aI .i64 1)] [(1005, some (.row 5 1 (([] : List Int).map c_u8)))]) mixed [qn0] ⟨[0, 5, 6], [], [], [], [(1005, 1005)], [], []⟩ aN (by kernel_rfl) ?_
      refine W_block ?_
      obtain ⟨n, h⟩ := fix_rec h
      exact W_conv (s' := LS.mk 120 [(0, aS a0), (5, .ref 1005), (6, aI .i64 1)] [(1005, some (.row 5 1 (([] : List Int).map c_u8)))]) ⟨[0, 5, 6], [], [], [], [(1005, 1005)], [], []⟩ (by kernel_rfl) (hindcastref03_Read_l0_ok n a0 1 ([] : List Int) r_ _ kr (fun q1 hq1  s' h hf => W_pre hf (hindcastref03_Read_j3_ok q1 a0 r_ _ kr h)) h)
def R_hindcastref04_One (a0 : (List UInt8)) (a1 : Int) (r : (GApiToken × Int × Int)) : Prop := FnP Try.prog 51 [aS a0, aI .i64 a1] (.tup [e_GApiToken r.1, aI .i64 r.2.1, aI .i64 r.2.2])
inductive hindcastref04_One_C where
  | j0 (a0 : (List UInt8)) (a1 : Int)
  | l1 (a0 : (List UInt8)) (a1 : Int) (v1_74_0 : Int)
  | j2 (a0 : (List UInt8)) (a1 : Int)
  | l3 (a0 : (List UInt8)) (a1 : Int) (v3_15_0 : Int)
  | j4 
abbrev hindcastref04_One_C_T : hindcastref04_One_C → Type := fun _ => (GApiToken × Int × Int)
noncomputable def hindcastref04_One_j0_b (g : (i : hindcastref04_One_C) → Option (hindcastref04_One_C_T i)) (a0 : (List UInt8)) (a1 : Int) : Option (GApiToken × Int × Int) :=
  ((hindcastref04_inner a0 a1).bind fun (r4_2 : Int) => (if CutR a1 r4_2 (a0.length : Int) then ((getI a0 a1).bind fun (x6_2 : UInt8) => ((hindcastref04_kind (x6_2.toNat : Int)).bind fun (r6_3 : Int) => (if r6_3 = 2 then (some ((GApiToken.mk 2 0 0 0 (cutL a0 a1 r4_2)), r4_2, 0)) else ((hindcastref04_Word (cutL a0 a1 r4_2)).bind fun (r8_2 : Bool) => (if r8_2 = true then (some ((GApiToken.mk 6 0 0 0 (cutL a0 a1 r4_2)), r4_2, 0)) else (some ((GApiToken.mk 1 0 0 0 (cutL a0 a1 r4_2)), r4_2, 0))))))) else none))
noncomputable def hindcastref04_One_l1_b (g : (i : hindcastref04_One_C) → Option (hindcastref04_One_C_T i)) (a0 : (List UInt8)) (a1 : Int) (v1_74_0 : Int) : Option (GApiToken × Int × Int) :=
  (if v1_74_0 < (([([38, 38] : List UInt8), ([124, 124] : List UInt8), ([61, 61] : List UInt8), ([33, 61] : List UInt8), ([60, 61] : List UInt8), ([62, 61] : List UInt8)] : List (List UInt8)).length : Int) then (if (w64 (a1 + 2)) ≤ (a0.length : Int) then (if CutR a1 (w64 (a1 + 2)) (a0.length : Int) then ((getI ([([38, 38] : List UInt8), ([124, 124] : List UInt8), ([61, 61] : List UInt8), ([33, 61] : List UInt8), ([60, 61] : List UInt8), ([62, 61] : List UInt8)] : List (List UInt8)) v1_74_0).bind fun (x22_13 : (List UInt8)) => (if (cutL a0 a1 (w64 (a1 + 2))) = x22_13 then (some ((GApiToken.mk 7 0 0 0 x22_13), (w64 (a1 + 2)), 0)) else g (.l1 a0 a1 (w64 (v1_74_0 + 1))))) else none) else g (.l1 a0 a1 (w64 (v1_74_0 + 1)))) else g (.j2 a0 a1))
noncomputable def hindcastref04_One_j2_b (g : (i : hindcastref04_One_C) → Option (hindcastref04_One_C_T i)) (a0 : (List UInt8)) (a1 : Int) : Option (GApiToken × Int × Int) :=
  g (.l3 a0 a1 0)
noncomputable def hindcastref04_One_l3_b (g : (i : hindcastref04_One_C) → Option (hindcastref04_One_C_T i)) (a0 : (List UInt8)) (a1 : Int) (v3_15_0 : Int) : Option (GApiToken × Int × Int) :=
  (if v3_15_0 < (([43, 45, 42, 47, 37, 60, 62, 33, 61, 40, 41, 123, 125, 91, 93, 44, 59, 58, 46] : List UInt8).length : Int) then ((getI a0 a1).bind fun (x28_2 : UInt8) => ((getI ([43, 45, 42, 47, 37, 60, 62, 33, 61, 40, 41, 123, 125, 91, 93, 44, 59, 58, 46] : List UInt8) v3_15_0).bind fun (x28_5 : UInt8) => (if (x28_2.toNat : Int) = (x28_5.toNat : Int) then (if CutR v3_15_0 (w64 (v3_15_0 + 1)) (([43, 45, 42, 47, 37, 60, 62, 33, 61, 40, 41, 123, 125, 91, 93, 44, 59, 58, 46] : List UInt8).length : Int) then (some ((GApiToken.mk 7 0 0 0 (cutL ([43, 45, 42, 47, 37, 60, 62, 33, 61, 40, 41, 123, 125, 91, 93, 44, 59, 58, 46] : List UInt8) v3_15_0 (w64 (v3_15_0 + 1)))), (w64 (a1 + 1)), 0)) else none) else g (.l3 a0 a1 (w64 (v3_15_0 + 1)))))) else g (.j4))
noncomputable def hindcastref04_One_j4_b (g : (i : hindcastref04_One_C) → Option (hindcastref04_One_C_T i))  : Option (GApiToken × Int × Int) :=
  (some ((GApiToken.mk 0 0 0 0 ([] : List UInt8)), 0, 4))
noncomputable def hindcastref04_One_B (g : (i : hindcastref04_One_C) → Option (hindcastref04_One_C_T i)) : (i : hindcastref04_One_C) → Option (hindcastref04_One_C_T i)
  | .j0 a0 a1 => hindcastref04_One_j0_b g a0 a1
  | .l1 a0 a1 v1_74_0 => hindcastref04_One_l1_b g a0 a1 v1_74_0
  | .j2 a0 a1 => hindcastref04_One_j2_b g a0 a1
  | .l3 a0 a1 v3_15_0 => hindcastref04_One_l3_b g a0 a1 v3_15_0
  | .j4  => hindcastref04_One_j4_b g 
theorem hindcastref04_One_B_fin (i : hindcastref04_One_C) : Fin1 (fun g => hindcastref04_One_B g i) := by
  cases i with
  | j0 a0 a1 => show Fin1 (fun g => hindcastref04_One_j0_b g a0 a1); unfold hindcastref04_One_j0_b; repeat (first | refine fin_bind ?_ (fun _ => ?_) | refine fin_ite ?_ ?_ | exact fin_ask _ | exact fin_const _)
  | l1 a0 a1 v1_74_0 => show Fin1 (fun g => hindcastref04_One_l1_b g a0 a1 v1_74_0); unfold hindcastref04_One_l1_b; repeat (first | refine fin_bind ?_ (fun _ => ?_) | refine fin_ite ?_ ?_ | exact fin_ask _ | exact fin_const _)
  | j2 a0 a1 => show Fin1 (fun g => hindcastref04_One_j2_b g a0 a1); unfold hindcastref04_One_j2_b; repeat (first | refine fin_bind ?_ (fun _ => ?_) | refine fin_ite ?_ ?_ | exact fin_ask _ | exact fin_const _)
  | l3 a0 a1 v3_15_0 => show Fin1 (fun g => hindcastref04_One_l3_b g a0 a1 v3_15_0); unfold hindcastref04_One_l3_b; repeat (first | refine fin_bind ?_ (fun _ => ?_) | refine fin_ite ?_ ?_ | exact fin_ask _ | exact fin_const _)
  | j4  => show Fin1 (fun g => hindcastref04_One_j4_b g ); unfold hindcastref04_One_j4_b; repeat (first | refine fin_bind ?_ (fun _ => ?_) | refine fin_ite ?_ ?_ | exact fin_ask _ | exact fin_const _)
noncomputable def hindcastref04_One_j0 (a0 : (List UInt8)) (a1 : Int) : Option (GApiToken × Int × Int) := fixD hindcastref04_One_B (.j0 a0 a1)
noncomputable def hindcastref04_One_l1 (a0 : (List UInt8)) (a1 : Int) (v1_74_0 : Int) : Option (GApiToken × Int × Int) := fixD hindcastref04_One_B (.l1 a0 a1 v1_74_0)
noncomputable def hindcastref04_One_j2 (a0 : (List UInt8)) (a1 : Int) : Option (GApiToken × Int × Int) := fixD hindcastref04_One_B (.j2 a0 a1)
noncomputable def hindcastref04_One_l3 (a0 : (List UInt8)) (a1 : Int) (v3_15_0 : Int) : Option (GApiToken × Int × Int) := fixD hindcastref04_One_B (.l3 a0 a1 v3_15_0)
noncomputable def hindcastref04_One_j4  : Option (GApiToken × Int × Int) := fixD hindcastref04_One_B (.j4 )
theorem hindcastref04_One_j0_eq (a0 : (List UInt8)) (a1 : Int) : hindcastref04_One_j0 a0 a1 =
  ((hindcastref04_inner a0 a1).bind fun (r4_2 : Int) => (if CutR a1 r4_2 (a0.length : Int) then ((getI a0 a1).bind fun (x6_2 : UInt8) => ((hindcastref04_kind (x6_2.toNat : Int)).bind fun (r6_3 : Int) => (if r6_3 = 2 then (some ((GApiToken.mk 2 0 0 0 (cutL a0 a1 r4_2)), r4_2, 0)) else ((hindcastref04_Word (cutL a0 a1 r4_2)).bind fun (r8_2 : Bool) => (if r8_2 = true then (some ((GApiToken.mk 6 0 0 0 (cutL a0 a1 r4_2)), r4_2, 0)) else (some ((GApiToken.mk 1 0 0 0 (cutL a0 a1 r4_2)), r4_2, 0))))))) else none)) := fix_eq hindcastref04_One_B_fin _
theorem hindcastref04_One_l1_eq (a0 : (List UInt8)) (a1 : Int) (v1_74_0 : Int) : hindcastref04_One_l1 a0 a1 v1_74_0 =
  (if v1_74_0 < (([([38, 38] : List UInt8), ([124, 124] : List UInt8), ([61, 61] : List UInt8), ([33, 61] : List UInt8), ([60, 61] : List UInt8), ([62, 61] : List UInt8)] : List (List UInt8)).length : Int) then (if (w64 (a1 + 2)) ≤ (a0.length : Int) then (if CutR a1 (w64 (a1 + 2)) (a0.length : Int) then ((getI ([([38, 38] : List UInt8), ([124, 124] : List UInt8), ([61, 61] : List UInt8), ([33, 61] : List UInt8), ([60, 61] : List UInt8), ([62, 61] : List UInt8)] : List (List UInt8)) v1_74_0).bind fun (x22_13 : (List UInt8)) => (if (cutL a0 a1 (w64 (a1 + 2))) = x22_13 then (some ((GApiToken.mk 7 0 0 0 x22_13), (w64 (a1 + 2)), 0)) else hindcastref04_One_l1 a0 a1 (w64 (v1_74_0 + 1)))) else none) else hindcastref04_One_l1 a0 a1 (w64 (v1_74_0 + 1))) else hindcastref04_One_j2 a0 a1) := fix_eq hindcastref04_One_B_fin _
theorem hindcastref04_One_j2_eq (a0 : (List UInt8)) (a1 : Int) : hindcastref04_One_j2 a0 a1 =
  hindcastref04_One_l3 a0 a1 0 := fix_eq hindcastref04_One_B_fin _
theorem hindcastref04_One_l3_eq (a0 : (List UInt8)) (a1 : Int) (v3_15_0 : Int) : hindcastref04_One_l3 a0 a1 v3_15_0 =
  (if v3_15_0 < (([43, 45, 42, 47, 37, 60, 62, 33, 61, 40, 41, 123, 125, 91, 93, 44, 59, 58, 46] : List UInt8).length : Int) then ((getI a0 a1).bind fun (x28_2 : UInt8) => ((getI ([43, 45, 42, 47, 37, 60, 62, 33, 61, 40, 41, 123, 125, 91, 93, 44, 59, 58, 46] : List UInt8) v3_15_0).bind fun (x28_5 : UInt8) => (if (x28_2.toNat : Int) = (x28_5.toNat : Int) then (if CutR v3_15_0 (w64 (v3_15_0 + 1)) (([43, 45, 42, 47, 37, 60, 62, 33, 61, 40, 41, 123, 125, 91, 93, 44, 59, 58, 46] : List UInt8).length : Int) then (some ((GApiToken.mk 7 0 0 0 (cutL ([43, 45, 42, 47, 37, 60, 62, 33, 61, 40, 41, 123, 125, 91, 93, 44, 59, 58, 46] : List UInt8) v3_15_0 (w64 (v3_15_0 + 1)))), (w64 (a1 + 1)), 0)) else none) else hindcastref04_One_l3 a0 a1 (w64 (v3_15_0 + 1))))) else hindcastref04_One_j4) := fix_eq hindcastref04_One_B_fin _
theorem hindcastref04_One_j4_eq  : hindcastref04_One_j4  =
  (some ((GApiToken.mk 0 0 0 0 ([] : List UInt8)), 0, 4)) := fix_eq hindcastref04_One_B_fin _
set_option maxRecDepth 100000 in
theorem hindcastref04_One_j0_ok (n : Nat)  (a0 : (List UInt8)) (a1 : Int) (r_ : (GApiToken × Int × Int)) (Q' : Exit → St → Prop) (kr : ∀ (ns : List (Nat × Nat × Nat)) (s : LS) (x : (GApiToken × Int × Int)), retX Try.prog ns [.cell 4 49, .tmp 5, .tmp 6] s = some (.tup [e_GApiToken x.1, aI .i64 x.2.1, aI .i64 x.2.2]) → x = r_ → Q' .ret s.st)  (h : recN hindcastref04_One_B n (.j0 a0 a1) = some r_) : W Try.prog (subC (bodyC Try.prog 51) [1, 0, 1, 0, 1, 0]) (LS.mk 124 [(0, aS a0), (1, aI .i64 a1), (4, .ptr 4 0)] [(4, some (.box 49 [aI .u8 0, aI .i64 0, aI .i64 0, aI .i64 0, aS ([] : List UInt8)]))]).st Q' := by
  cases n with
  | zero => cases h
  | succ m =>
  have hlt : m < m + 1 := Nat.lt_succ_self m
  replace h : hindcastref04_One_j0_b (recN hindcastref04_One_B m) a0 a1 = some r_ := h
  unfold hindcastref04_One_j0_b at h
  refine W_seq ?_
  obtain ⟨r4_2, hr4_2, h⟩ := bind_ok h
  have hr4_2 := hindcastref04_inner_ok hr4_2
  refine W_y (s' := LS.mk 124 [(0, aS a0), (1, aI .i64 a1), (4, .ptr 4 0), (7, aI .i64 r4_2)] [(4, some (.box 49 [aI .u8 0, aI .i64 0, aI .i64 0, aI .i64 0, aS ([] : List UInt8)]))]) mixed [qn0, qn0, qn (.call [] (aI .i64 r4_2)), qn0] ⟨[0, 1, 4, 7], [], [4], [], [], [], []⟩ (aC hr4_2 aN) (by kernel_rfl) ?_
  refine W_seq ?_
  obtain ⟨hd1001, h⟩ := ite_ok h
  refine W_y (s' := LS.mk 124 [(0, aS a0), (1, aI .i64 a1), (4, .ptr 4 0), (7, aI .i64 r4_2), (8, .ptr 8 0)] [(4, some (.box 49 [aI .u8 0, aI .i64 0, aI .i64 0, aI .i64 0, aS ([] : List UInt8)])), (8, some (.box 49 [aI .u8 1, aI .i64 0, aI .i64 0, aI .i64 0, aS (cutL a0 a1 r4_2)]))]) mixed [qn0, qn0, qn0, qn (.quiet (aS (cutL a0 a1 r4_2))), qn0, qn0, qn0] ⟨[0, 1, 4, 7, 8], [], [4, 8], [], [], [], []⟩ (aC (show Quiet Try.prog (opAt (subC (bodyC Try.prog 51) [1, 0, 1, 0, 1, 0, 1, 0]) 3) [aS a0, aI .i64 a1, aI .i64 r4_2] (aS (cutL a0 a1 r4_2)) from cutS_oblh (by rfl) (by kernel_rfl) hd1001) aN) (by kernel_rfl) ?_
  refine W_seq ?_
  refine W_seq ?_
  obtain ⟨x6_2, hx6_2, h⟩ := bind_ok h
  obtain ⟨r6_3, hr6_3, h⟩ := bind_ok h
  have hr6_3 := hindcastref04_kind_ok hr6_3
  refine W_y (s' := LS.mk 124 [(4, .ptr 4 0), (7, aI .i64 r4_2), (8, .ptr 8 0), (35, aB (decide (r6_3 = 2)))] [(4, some (.box 49 [aI .u8 0, aI .i64 0, aI .i64 0, aI .i64 0, aS ([] : List UInt8)])), (8, some (.box 49 [aI .u8 1, aI .i64 0, aI .i64 0, aI .i64 0, aS (cutL a0 a1 r4_2)]))]) mixed [qn0, qn0, qn (.sx (Int.toNat a1) x6_2), qn (.call [] (aI .i64 r6_3)), qn0] ⟨[4, 7, 8, 35], [], [4, 8], [], [], [], []⟩ (aC (sx_ob hx6_2) (aC hr6_3 aN)) (by kernel_rfl) ?_
  refine W_cond (decide (r6_3 = 2)) (by kernel_rfl) (fun hb1002 => ?_) (fun hb1002 => ?_)
  · have hx1003 := hb1002
    have h := if_t h hx1003
    refine W_y (s' := LS.mk 124 [(4, .ptr 4 0), (7, aI .i64 r4_2), (8, .ptr 8 0)] [(4, some (.box 49 [aI .u8 0, aI .i64 0, aI .i64 0, aI .i64 0, aS ([] : List UInt8)])), (8, some (.box 49 [aI .u8 2, aI .i64 0, aI .i64 0, aI .i64 0, aS (cutL a0 a1 r4_2)]))]) mixed [qn0, qn0] ⟨[4, 7, 8], [], [4, 8], [], [], [], []⟩ aN (by kernel_rfl) ?_
    refine W_seq ?_
    refine W_y (s' := LS.mk 124 [(4, .ptr 4 0), (5, aI .i64 r4_2), (6, aI .i64 0)] [(4, some (.box 49 [aI .u8 2, aI .i64 0, aI .i64 0, aI .i64 0, aS (cutL a0 a1 r4_2)]))]) mixed [qn0, qn0, qn0, qn0, qn0] ⟨[4, 5, 6], [], [4], [], [], [], []⟩ aN (by kernel_rfl) ?_
    refine W_ret ?_
    exact kr [] _ _ (by kernel_rfl) (Option.some.inj h)
  · have hx1003 := hb1002
    have h := if_f h hx1003
    refine W_seq ?_
    obtain ⟨r8_2, hr8_2, h⟩ := bind_ok h
    have hr8_2 := hindcastref04_Word_ok hr8_2
    refine W_y (s' := LS.mk 124 [(4, .ptr 4 0), (7, aI .i64 r4_2), (8, .ptr 8 0), (39, aB r8_2)] [(4, some (.box 49 [aI .u8 0, aI .i64 0, aI .i64 0, aI .i64 0, aS ([] : List UInt8)])), (8, some (.box 49 [aI .u8 1, aI .i64 0, aI .i64 0, aI .i64 0, aS (cutL a0 a1 r4_2)]))]) mixed [qn0, qn0, qn (.call [] (aB r8_2))] ⟨[4, 7, 8, 39], [], [4, 8], [], [], [], []⟩ (aC hr8_2 aN) (by kernel_rfl) ?_
    refine W_cond r8_2 (by kernel_rfl) (fun hb1004 => ?_) (fun hb1004 => ?_)
    · have hx1005 := hb1004
      have h := ib_t h hx1005
      refine W_y (s' := LS.mk 124 [(4, .ptr 4 0), (7, aI .i64 r4_2), (8, .ptr 8 0)] [(4, some (.box 49 [aI .u8 0, aI .i64 0, aI .i64 0, aI .i64 0, aS ([] : List UInt8)])), (8, some (.box 49 [aI .u8 6, aI .i64 0, aI .i64 0, aI .i64 0, aS (cutL a0 a1 r4_2)]))]) mixed [qn0, qn0] ⟨[4, 7, 8], [], [4, 8], [], [], [], []⟩ aN (by kernel_rfl) ?_
      refine W_seq ?_
      refine W_y (s' := LS.mk 124 [(4, .ptr 4 0), (5, aI .i64 r4_2), (6, aI .i64 0)] [(4, some (.box 49 [aI .u8 6, aI .i64 0, aI .i64 0, aI .i64 0, aS (cutL a0 a1 r4_2)]))]) mixed [qn0, qn0, qn0, qn0, qn0] ⟨[4, 5, 6], [], [4], [], [], [], []⟩ aN (by kernel_rfl) ?_
      refine W_ret ?_
      exact kr [] _ _ (by kernel_rfl) (Option.some.inj h)
    · have hx1005 := hb1004
      have h := ib_f h hx1005
      refine W_skip ?_
      refine W_seq ?_
      refine W_y (s' := LS.mk 124 [(4, .ptr 4 0), (5, aI .i64 r4_2), (6, aI .i64 0)] [(4, some (.box 49 [aI .u8 1, aI .i64 0, aI .i64 0, aI .i64 0, aS (cutL a0 a1 r4_2)]))]) mixed [qn0, qn0, qn0, qn0, qn0] ⟨[4, 5, 6], [], [4], [], [], [], []⟩ aN (by kernel_rfl) ?_
      refine W_ret ?_
      exact kr [] _ _ (by kernel_rfl) (Option.some.inj h)
set_option maxRecDepth 100000 in
theorem hindcastref04_One_l1_ok (n : Nat)  (a0 : (List UInt8)) (a1 : Int) (v1_74_0 : Int) (r_ : (GApiToken × Int × Int)) (Q' : Exit → St → Prop) (kr : ∀ (ns : List (Nat × Nat × Nat)) (s : LS) (x : (GApiToken × Int × Int)), retX Try.prog ns [.cell 4 49, .tmp 5, .tmp 6] s = some (.tup [e_GApiToken x.1, aI .i64 x.2.1, aI .i64 x.2.2]) → x = r_ → Q' .ret s.st) (k_x_1 : ∀ (q : Nat), q < n → ∀  (s' : LS), recN hindcastref04_One_B q (.j2 a0 a1) = some r_ → Fits s'.st (LS.mk 124 [(0, aS a0), (1, aI .i64 a1), (4, .ptr 4 0)] [(4, some (.box 49 [aI .u8 0, aI .i64 0, aI .i64 0, aI .i64 0, aS ([] : List UInt8)]))]).st → Q' (.exit 1) s'.st) (h : recN hindcastref04_One_B n (.l1 a0 a1 v1_74_0) = some r_) : W Try.prog (subC (bodyC Try.prog 51) [1, 1, 1, 1, 0, 1, 0]) (LS.mk 124 [(0, aS a0), (1, aI .i64 a1), (4, .ptr 4 0), (12, .ref 1012), (73, aI .i64 (([([38, 38] : List UInt8), ([124, 124] : List UInt8), ([61, 61] : List UInt8), ([33, 61] : List UInt8), ([60, 61] : List UInt8), ([62, 61] : List UInt8)] : List (List UInt8)).length : Int)), (74, aI .i64 v1_74_0)] [(4, some (.box 49 [aI .u8 0, aI .i64 0, aI .i64 0, aI .i64 0, aS ([] : List UInt8)])), (1012, some (.row 9 1 (([([38, 38] : List UInt8), ([124, 124] : List UInt8), ([61, 61] : List UInt8), ([33, 61] : List UInt8), ([60, 61] : List UInt8), ([62, 61] : List UInt8)] : List (List UInt8)).map c_str)))]).st Q' := by
  refine W_fix (σ := Int) (fun m x_ => m ≤ n ∧ recN hindcastref04_One_B m (.l1 a0 a1 x_) = some r_) (fun x_ => LS.mk 124 [(0, aS a0), (1, aI .i64 a1), (4, .ptr 4 0), (12, .ref 1012), (73, aI .i64 (([([38, 38] : List UInt8), ([124, 124] : List UInt8), ([61, 61] : List UInt8), ([33, 61] : List UInt8), ([60, 61] : List UInt8), ([62, 61] : List UInt8)] : List (List UInt8)).length : Int)), (74, aI .i64 x_)] [(4, some (.box 49 [aI .u8 0, aI .i64 0, aI .i64 0, aI .i64 0, aS ([] : List UInt8)])), (1012, some (.row 9 1 (([([38, 38] : List UInt8), ([124, 124] : List UInt8), ([61, 61] : List UInt8), ([33, 61] : List UInt8), ([60, 61] : List UInt8), ([62, 61] : List UInt8)] : List (List UInt8)).map c_str)))]) (fun x hx => by cases hx.2) (fun _ _ => rfl) ?_ n (v1_74_0) ⟨Nat.le_refl _, h⟩
  clear h
  rintro m v1_74_0 ⟨hlt, h⟩
  replace h : hindcastref04_One_l1_b (recN hindcastref04_One_B m) a0 a1 v1_74_0 = some r_ := h
  unfold hindcastref04_One_l1_b at h
  refine W_seq ?_
  refine W_y (s' := LS.mk 124 [(0, aS a0), (1, aI .i64 a1), (4, .ptr 4 0), (12, .ref 1012), (73, aI .i64 (([([38, 38] : List UInt8), ([124, 124] : List UInt8), ([61, 61] : List UInt8), ([33, 61] : List UInt8), ([60, 61] : List UInt8), ([62, 61] : List UInt8)] : List (List UInt8)).length : Int)), (74, aI .i64 v1_74_0), (75, aB (decide (v1_74_0 < (([([38, 38] : List UInt8), ([124, 124] : List UInt8), ([61, 61] : List UInt8), ([33, 61] : List UInt8), ([60, 61] : List UInt8), ([62, 61] : List UInt8)] : List (List UInt8)).length : Int))))] [(4, some (.box 49 [aI .u8 0, aI .i64 0, aI .i64 0, aI .i64 0, aS ([] : List UInt8)])), (1012, some (.row 9 1 (([([38, 38] : List UInt8), ([124, 124] : List UInt8), ([61, 61] : List UInt8), ([33, 61] : List UInt8), ([60, 61] : List UInt8), ([62, 61] : List UInt8)] : List (List UInt8)).map c_str)))]) mixed [qn0] ⟨[0, 1, 4, 12, 73, 74, 75], [], [4], [], [(1012, 1012)], [], []⟩ aN (by kernel_rfl) ?_
  refine W_seq ?_
  refine W_cond (decide (v1_74_0 < (([([38, 38] : List UInt8), ([124, 124] : List UInt8), ([61, 61] : List UInt8), ([33, 61] : List UInt8), ([60, 61] : List UInt8), ([62, 61] : List UInt8)] : List (List UInt8)).length : Int))) (by kernel_rfl) (fun hb2001 => ?_) (fun hb2001 => ?_)
  · have hx2002 := hb2001
    have h := if_t h hx2002
    refine W_skip ?_
    refine W_seq ?_
    refine W_block ?_
    refine W_seq ?_
    refine W_y (s' := LS.mk 124 [(0, aS a0), (1, aI .i64 a1), (4, .ptr 4 0), (12, .ref 1012), (13, aI .i64 v1_74_0), (73, aI .i64 (([([38, 38] : List UInt8), ([124, 124] : List UInt8), ([61, 61] : List UInt8), ([33, 61] : List UInt8), ([60, 61] : List UInt8), ([62, 61] : List UInt8)] : List (List UInt8)).length : Int)), (74, aI .i64 v1_74_0)] [(4, some (.box 49 [aI .u8 0, aI .i64 0, aI .i64 0, aI .i64 0, aS ([] : List UInt8)])), (1012, some (.row 9 1 (([([38, 38] : List UInt8), ([124, 124] : List UInt8), ([61, 61] : List UInt8), ([33, 61] : List UInt8), ([60, 61] : List UInt8), ([62, 61] : List UInt8)] : List (List UInt8)).map c_str)))]) mixed [qn0, qn0] ⟨[0, 1, 4, 12, 13, 73, 74], [], [4], [], [(1012, 1012)], [], []⟩ aN (by kernel_rfl) ?_
    refine W_seq ?_
    refine (Bool.eq_false_or_eq_true (decide ((w64 (a1 + 2)) ≤ (a0.length : Int)))).elim (fun hb2003 => ?_) (fun hb2003 => ?_)
    · have hx2004 := hb2003
      have h := if_t h hx2004
      obtain ⟨hd2005, h⟩ := ite_ok h
      obtain ⟨x22_13, hx22_13, h⟩ := bind_ok h
      refine W_y (s' := LS.mk 124 [(0, aS a0), (1, aI .i64 a1), (4, .ptr 4 0), (12, .ref 1012), (13, aI .i64 v1_74_0), (73, aI .i64 (([([38, 38] : List UInt8), ([124, 124] : List UInt8), ([61, 61] : List UInt8), ([33, 61] : List UInt8), ([60, 61] : List UInt8), ([62, 61] : List UInt8)] : List (List UInt8)).length : Int)), (74, aI .i64 v1_74_0), (93, aB (decide ((cutL a0 a1 (w64 (a1 + 2))) = x22_13)))] [(4, some (.box 49 [aI .u8 0, aI .i64 0, aI .i64 0, aI .i64 0, aS ([] : List UInt8)])), (1012, some (.row 9 1 (([([38, 38] : List UInt8), ([124, 124] : List UInt8), ([61, 61] : List UInt8), ([33, 61] : List UInt8), ([60, 61] : List UInt8), ([62, 61] : List UInt8)] : List (List UInt8)).map c_str)))]) mixed [qn0, qn0, qn0, qn0, qn0, qn0, qt0, qt0, qt0, qt0, qt (.quiet (aS (cutL a0 a1 (w64 (a1 + 2))))), qt0, qt0, qt (.ix (Int.toNat v1_74_0) (c_str x22_13)), qt (.ix (Int.toNat v1_74_0) (c_str x22_13)), qt (.val (.bool (decide ((cutL a0 a1 (w64 (a1 + 2))) = x22_13)))), qn (.dec true)] ⟨[0, 1, 4, 12, 13, 73, 74, 93], [], [4], [], [(1012, 1012)], [], []⟩ (aC hx2004 (aC hx2004 (aC hx2004 (aC hx2004 (aC hx2004 (aC (show Quiet Try.prog (opAt (subC (bodyC Try.prog 51) [1, 1, 1, 1, 0, 1, 0, 0, 1, 1, 0, 0, 1, 0]) 10) [aS a0, aI .i64 a1, aI .i64 (w64 (a1 + 2))] (aS (cutL a0 a1 (w64 (a1 + 2)))) from cutS_oblh (by rfl) (by kernel_rfl) hd2005) (aC hx2004 (aC hx2004 (aC hx2004 (aC (ix_obx c_str hx22_13) (aC hx2004 (aC (el_obx c_str hx22_13) (aC hx2004 (aC (str_eq_ob (P := Try.prog) 9 (cutL a0 a1 (w64 (a1 + 2))) x22_13) (aC hx2004 aN))))))))))))))) (by kernel_rfl) ?_
      refine W_cond (decide ((cutL a0 a1 (w64 (a1 + 2))) = x22_13)) (by kernel_rfl) (fun hb2006 => ?_) (fun hb2006 => ?_)
      · have hx2007 := hb2006
        have h := if_t h hx2007
        refine W_seq ?_
        refine W_y (s' := LS.mk 124 [(4, .ptr 4 0), (5, aI .i64 (w64 (a1 + 2))), (6, aI .i64 0)] [(4, some (.box 49 [aI .u8 7, aI .i64 0, aI .i64 0, aI .i64 0, aS x22_13]))]) mixed [qn0, qn0, qn (.ix (Int.toNat v1_74_0) (c_str x22_13)), qn (.ix (Int.toNat v1_74_0) (c_str x22_13)), qn0, qn0, qn0, qn0, qn0, qn0] ⟨[4, 5, 6], [], [4], [], [], [], []⟩ (aC (ix_obx c_str hx22_13) (aC (el_obx c_str hx22_13) aN)) (by kernel_rfl) ?_
        refine W_ret ?_
        exact kr [] _ _ (by kernel_rfl) (Option.some.inj h)
      · have hx2007 := hb2006
        have h := if_f h hx2007
        refine W_skip ?_
        refine W_y (s' := LS.mk 124 [(0, aS a0), (1, aI .i64 a1), (4, .ptr 4 0), (12, .ref 1012), (73, aI .i64 (([([38, 38] : List UInt8), ([124, 124] : List UInt8), ([61, 61] : List UInt8), ([33, 61] : List UInt8), ([60, 61] : List UInt8), ([62, 61] : List UInt8)] : List (List UInt8)).length : Int)), (74, aI .i64 (w64 (v1_74_0 + 1)))] [(4, some (.box 49 [aI .u8 0, aI .i64 0, aI .i64 0, aI .i64 0, aS ([] : List UInt8)])), (1012, some (.row 9 1 (([([38, 38] : List UInt8), ([124, 124] : List UInt8), ([61, 61] : List UInt8), ([33, 61] : List UInt8), ([60, 61] : List UInt8), ([62, 61] : List UInt8)] : List (List UInt8)).map c_str)))]) mixed [qn0, qn0] ⟨[0, 1, 4, 12, 73, 74], [], [4], [], [(1012, 1012)], [], []⟩ aN (by kernel_rfl) ?_
        exact ⟨m, ((w64 (v1_74_0 + 1))), Nat.le_refl _, ⟨Nat.le_of_lt hlt, h⟩, convX_fits (v := ⟨[0, 1, 4, 12, 73, 74], [], [4], [], [(1012, 1012)], [], []⟩) (s' := LS.mk 124 [(0, aS a0), (1, aI .i64 a1), (4, .ptr 4 0), (12, .ref 1012), (73, aI .i64 (([([38, 38] : List UInt8), ([124, 124] : List UInt8), ([61, 61] : List UInt8), ([33, 61] : List UInt8), ([60, 61] : List UInt8), ([62, 61] : List UInt8)] : List (List UInt8)).length : Int)), (74, aI .i64 (w64 (v1_74_0 + 1)))] [(4, some (.box 49 [aI .u8 0, aI .i64 0, aI .i64 0, aI .i64 0, aS ([] : List UInt8)])), (1012, some (.row 9 1 (([([38, 38] : List UInt8), ([124, 124] : List UInt8), ([61, 61] : List UInt8), ([33, 61] : List UInt8), ([60, 61] : List UInt8), ([62, 61] : List UInt8)] : List (List UInt8)).map c_str)))]) (by kernel_rfl)⟩
    · have hx2004 := hb2003
      have h := if_f h hx2004
      refine W_y (s' := LS.mk 124 [(0, aS a0), (1, aI .i64 a1), (4, .ptr 4 0), (12, .ref 1012), (13, aI .i64 v1_74_0), (73, aI .i64 (([([38, 38] : List UInt8), ([124, 124] : List UInt8), ([61, 61] : List UInt8), ([33, 61] : List UInt8), ([60, 61] : List UInt8), ([62, 61] : List UInt8)] : List (List UInt8)).length : Int)), (74, aI .i64 v1_74_0), (93, aB false)] [(4, some (.box 49 [aI .u8 0, aI .i64 0, aI .i64 0, aI .i64 0, aS ([] : List UInt8)])), (1012, some (.row 9 1 (([([38, 38] : List UInt8), ([124, 124] : List UInt8), ([61, 61] : List UInt8), ([33, 61] : List UInt8), ([60, 61] : List UInt8), ([62, 61] : List UInt8)] : List (List UInt8)).map c_str)))]) mixed [qn0, qn0, qn0, qn0, qn0, qn0, qf0, qf0, qf0, qf0, qf0, qf0, qf0, qf0, qf0, qf0, qn (.dec false)] ⟨[0, 1, 4, 12, 13, 73, 74, 93], [], [4], [], [(1012, 1012)], [], []⟩ (aC hx2004 (aC hx2004 (aC hx2004 (aC hx2004 (aC hx2004 (aC hx2004 (aC hx2004 (aC hx2004 (aC hx2004 (aC hx2004 (aC hx2004 aN))))))))))) (by kernel_rfl) ?_
      refine W_cond false (by kernel_rfl) (fun hb => nomatch ((rfl : false = false).symm.trans hb)) (fun _ => ?_)
      refine W_skip ?_
      refine W_y (s' := LS.mk 124 [(0, aS a0), (1, aI .i64 a1), (4, .ptr 4 0), (12, .ref 1012), (73, aI .i64 (([([38, 38] : List UInt8), ([124, 124] : List UInt8), ([61, 61] : List UInt8), ([33, 61] : List UInt8), ([60, 61] : List UInt8), ([62, 61] : List UInt8)] : List (List UInt8)).length : Int)), (74, aI .i64 (w64 (v1_74_0 + 1)))] [(4, some (.box 49 [aI .u8 0, aI .i64 0, aI .i64 0, aI .i64 0, aS ([] : List UInt8)])), (1012, some (.row 9 1 (([([38, 38] : List UInt8), ([124, 124] : List UInt8), ([61, 61] : List UInt8), ([33, 61] : List UInt8), ([60, 61] : List UInt8), ([62, 61] : List UInt8)] : List (List UInt8)).map c_str)))]) mixed [qn0, qn0] ⟨[0, 1, 4, 12, 73, 74], [], [4], [], [(1012, 1012)], [], []⟩ aN (by kernel_rfl) ?_
      exact ⟨m, ((w64 (v1_74_0 + 1))), Nat.le_refl _, ⟨Nat.le_of_lt hlt, h⟩, convX_fits (v := ⟨[0, 1, 4, 12, 73, 74], [], [4], [], [(1012, 1012)], [], []⟩) (s' := LS.mk 124 [(0, aS a0), (1, aI .i64 a1), (4, .ptr 4 0), (12, .ref 1012), (73, aI .i64 (([([38, 38] : List UInt8), ([124, 124] : List UInt8), ([61, 61] : List UInt8), ([33, 61] : List UInt8), ([60, 61] : List UInt8), ([62, 61] : List UInt8)] : List (List UInt8)).length : Int)), (74, aI .i64 (w64 (v1_74_0 + 1)))] [(4, some (.box 49 [aI .u8 0, aI .i64 0, aI .i64 0, aI .i64 0, aS ([] : List UInt8)])), (1012, some (.row 9 1 (([([38, 38] : List UInt8), ([124, 124] : List UInt8), ([61, 61] : List UInt8), ([33, 61] : List UInt8), ([60, 61] : List UInt8), ([62, 61] : List UInt8)] : List (List UInt8)).map c_str)))]) (by kernel_rfl)⟩
  · have hx2002 := hb2001
    have h := if_f h hx2002
    refine W_exit ?_
    exact k_x_1 m hlt  _ h (convX_fits (v := ⟨[0, 1, 4], [], [4], [], [], [], []⟩) (s' := LS.mk 124 [(0, aS a0), (1, aI .i64 a1), (4, .ptr 4 0)] [(4, some (.box 49 [aI .u8 0, aI .i64 0, aI .i64 0, aI .i64 0, aS ([] : List UInt8)]))]) (by kernel_rfl))
set_option maxRecDepth 100000 in
theorem hindcastref04_One_l3_ok (n : Nat)  (a0 : (List UInt8)) (a1 : Int) (v3_15_0 : Int) (r_ : (GApiToken × Int × Int)) (Q' : Exit → St → Prop) (kr : ∀ (ns : List (Nat × Nat × Nat)) (s : LS) (x : (GApiToken × Int × Int)), retX Try.prog ns [.cell 4 49, .tmp 5, .tmp 6] s = some (.tup [e_GApiToken x.1, aI .i64 x.2.1, aI .i64 x.2.2]) → x = r_ → Q' .ret s.st) (k_x_3 : ∀ (q : Nat), q < n → ∀  (s' : LS), recN hindcastref04_One_B q (.j4 ) = some r_ → Fits s'.st (LS.mk 124 [(4, .ptr 4 0)] [(4, some (.box 49 [aI .u8 0, aI .i64 0, aI .i64 0, aI .i64 0, aS ([] : List UInt8)]))]).st → Q' (.exit 3) s'.st) (h : recN hindcastref04_One_B n (.l3 a0 a1 v3_15_0) = some r_) : W Try.prog (subC (bodyC Try.prog 51) [1, 1, 1, 1, 1, 1, 0, 1, 0]) (LS.mk 124 [(0, aS a0), (1, aI .i64 a1), (4, .ptr 4 0), (14, aS ([43, 45, 42, 47, 37, 60, 62, 33, 61, 40, 41, 123, 125, 91, 93, 44, 59, 58, 46] : List UInt8)), (15, aI .i64 v3_15_0)] [(4, some (.box 49 [aI .u8 0, aI .i64 0, aI .i64 0, aI .i64 0, aS ([] : List UInt8)]))]).st Q' := by
  refine W_fix (σ := Int) (fun m x_ => m ≤ n ∧ recN hindcastref04_One_B m (.l3 a0 a1 x_) = some r_) (fun x_ => LS.mk 124 [(0, aS a0), (1, aI .i64 a1), (4, .ptr 4 0), (14, aS ([43, 45, 42, 47, 37, 60, 62, 33, 61, 40, 41, 123, 125, 91, 93, 44, 59, 58, 46] : List UInt8)), (15, aI .i64 x_)] [(4, some (.box 49 [aI .u8 0, aI .i64 0, aI .i64 0, aI .i64 0, aS ([] : List UInt8)]))]) (fun x hx => by cases hx.2) (fun _ _ => rfl) ?_ n (v3_15_0) ⟨Nat.le_refl _, h⟩
  clear h
  rintro m v3_15_0 ⟨hlt, h⟩
  replace h : hindcastref04_One_l3_b (recN hindcastref04_One_B m) a0 a1 v3_15_0 = some r_ := h
  unfold hindcastref04_One_l3_b at h
  refine W_seq ?_
  refine W_seq ?_
  refine W_y (s' := LS.mk 124 [(0, aS a0), (1, aI .i64 a1), (4, .ptr 4 0), (14, aS ([43, 45, 42, 47, 37, 60, 62, 33, 61, 40, 41, 123, 125, 91, 93, 44, 59, 58, 46] : List UInt8)), (15, aI .i64 v3_15_0), (105, aB (decide (v3_15_0 < (([43, 45, 42, 47, 37, 60, 62, 33, 61, 40, 41, 123, 125, 91, 93, 44, 59, 58, 46] : List UInt8).length : Int))))] [(4, some (.box 49 [aI .u8 0, aI .i64 0, aI .i64 0, aI .i64 0, aS ([] : List UInt8)]))]) mixed [qn0, qn0, qn0, qn0] ⟨[0, 1, 4, 14, 15, 105], [], [4], [], [], [], []⟩ aN (by kernel_rfl) ?_
  refine W_cond (decide (v3_15_0 < (([43, 45, 42, 47, 37, 60, 62, 33, 61, 40, 41, 123, 125, 91, 93, 44, 59, 58, 46] : List UInt8).length : Int))) (by kernel_rfl) (fun hb4001 => ?_) (fun hb4001 => ?_)
  · have hx4002 := hb4001
    have h := if_t h hx4002
    refine W_skip ?_
    refine W_seq ?_
    refine W_block ?_
    refine W_seq ?_
    obtain ⟨x28_2, hx28_2, h⟩ := bind_ok h
    obtain ⟨x28_5, hx28_5, h⟩ := bind_ok h
    refine W_y (s' := LS.mk 124 [(0, aS a0), (1, aI .i64 a1), (4, .ptr 4 0), (14, aS ([43, 45, 42, 47, 37, 60, 62, 33, 61, 40, 41, 123, 125, 91, 93, 44, 59, 58, 46] : List UInt8)), (15, aI .i64 v3_15_0), (114, aB (decide ((x28_2.toNat : Int) = (x28_5.toNat : Int))))] [(4, some (.box 49 [aI .u8 0, aI .i64 0, aI .i64 0, aI .i64 0, aS ([] : List UInt8)]))]) mixed [qn0, qn0, qn (.sx (Int.toNat a1) x28_2), qn0, qn0, qn (.sx (Int.toNat v3_15_0) x28_5), qn0] ⟨[0, 1, 4, 14, 15, 114], [], [4], [], [], [], []⟩ (aC (sx_ob hx28_2) (aC (sx_ob hx28_5) aN)) (by kernel_rfl) ?_
    refine W_cond (decide ((x28_2.toNat : Int) = (x28_5.toNat : Int))) (by kernel_rfl) (fun hb4003 => ?_) (fun hb4003 => ?_)
    · have hx4004 := hb4003
      have h := if_t h hx4004
      refine W_seq ?_
      obtain ⟨hd4005, h⟩ := ite_ok h
      refine W_y (s' := LS.mk 124 [(4, .ptr 4 0), (5, aI .i64 (w64 (a1 + 1))), (6, aI .i64 0)] [(4, some (.box 49 [aI .u8 7, aI .i64 0, aI .i64 0, aI .i64 0, aS (cutL ([43, 45, 42, 47, 37, 60, 62, 33, 61, 40, 41, 123, 125, 91, 93, 44, 59, 58, 46] : List UInt8) v3_15_0 (w64 (v3_15_0 + 1)))]))]) mixed [qn0, qn0, qn0, qn0, qn (.quiet (aS (cutL ([43, 45, 42, 47, 37, 60, 62, 33, 61, 40, 41, 123, 125, 91, 93, 44, 59, 58, 46] : List UInt8) v3_15_0 (w64 (v3_15_0 + 1))))), qn0, qn0, qn0, qn0, qn0, qn0] ⟨[4, 5, 6], [], [4], [], [], [], []⟩ (aC (show Quiet Try.prog (opAt (subC (bodyC Try.prog 51) [1, 1, 1, 1, 1, 1, 0, 1, 0, 0, 1, 0, 0, 1, 0, 0]) 4) [aS ([43, 45, 42, 47, 37, 60, 62, 33, 61, 40, 41, 123, 125, 91, 93, 44, 59, 58, 46] : List UInt8), aI .i64 v3_15_0, aI .i64 (w64 (v3_15_0 + 1))] (aS (cutL ([43, 45, 42, 47, 37, 60, 62, 33, 61, 40, 41, 123, 125, 91, 93, 44, 59, 58, 46] : List UInt8) v3_15_0 (w64 (v3_15_0 + 1)))) from cutS_oblh (by rfl) (by kernel_rfl) hd4005) aN) (by kernel_rfl) ?_
      refine W_ret ?_
      exact kr [] _ _ (by kernel_rfl) (Option.some.inj h)
    · have hx4004 := hb4003
      have h := if_f h hx4004
      refine W_skip ?_
      refine W_y (s' := LS.mk 124 [(0, aS a0), (1, aI .i64 a1), (4, .ptr 4 0), (14, aS ([43, 45, 42, 47, 37, 60, 62, 33, 61, 40, 41, 123, 125, 91, 93, 44, 59, 58, 46] : List UInt8)), (15, aI .i64 (w64 (v3_15_0 + 1)))] [(4, some (.box 49 [aI .u8 0, aI .i64 0, aI .i64 0, aI .i64 0, aS ([] : List UInt8)]))]) mixed [qn0, qn0, qn0] ⟨[0, 1, 4, 14, 15], [], [4], [], [], [], []⟩ aN (by kernel_rfl) ?_
      exact ⟨m, ((w64 (v3_15_0 + 1))), Nat.le_refl _, ⟨Nat.le_of_lt hlt, h⟩, convX_fits (v := ⟨[0, 1, 4, 14, 15], [], [4], [], [], [], []⟩) (s' := LS.mk 124 [(0, aS a0), (1, aI .i64 a1), (4, .ptr 4 0), (14, aS ([43, 45, 42, 47, 37, 60, 62, 33, 61, 40, 41, 123, 125, 91, 93, 44, 59, 58, 46] : List UInt8)), (15, aI .i64 (w64 (v3_15_0 + 1)))] [(4, some (.box 49 [aI .u8 0, aI .i64 0, aI .i64 0, aI .i64 0, aS ([] : List UInt8)]))]) (by kernel_rfl)⟩
  · have hx4002 := hb4001
    have h := if_f h hx4002
    refine W_exit ?_
    exact k_x_3 m hlt  _ h (convX_fits (v := ⟨[4], [], [4], [], [], [], []⟩) (s' := LS.mk 124 [(4, .ptr 4 0)] [(4, some (.box 49 [aI .u8 0, aI .i64 0, aI .i64 0, aI .i64 0, aS ([] : List UInt8)]))]) (by kernel_rfl))
set_option maxRecDepth 100000 in
theorem hindcastref04_One_j4_ok (n : Nat)   (r_ : (GApiToken × Int × Int)) (Q' : Exit → St → Prop) (kr : ∀ (ns : List (Nat × Nat × Nat)) (s : LS) (x : (GApiToken × Int × Int)), retX Try.prog ns [.cell 4 49, .tmp 5, .tmp 6] s = some (.tup [e_GApiToken x.1, aI .i64 x.2.1, aI .i64 x.2.2]) → x = r_ → Q' .ret s.st)  (h : recN hindcastref04_One_B n (.j4 ) = some r_) : W Try.prog (subC (bodyC Try.prog 51) [1, 1, 1, 1, 1, 1, 1]) (LS.mk 124 [(4, .ptr 4 0)] [(4, some (.box 49 [aI .u8 0, aI .i64 0, aI .i64 0, aI .i64 0, aS ([] : List UInt8)]))]).st Q' := by
  cases n with
  | zero => cases h
  | succ m =>
  have hlt : m < m + 1 := Nat.lt_succ_self m
  replace h : hindcastref04_One_j4_b (recN hindcastref04_One_B m)  = some r_ := h
  unfold hindcastref04_One_j4_b at h
  refine W_seq ?_
  refine W_y (s' := LS.mk 124 [(4, .ptr 4 0), (5, aI .i64 0), (6, aI .i64 4)] [(4, some (.box 49 [aI .u8 0, aI .i64 0, aI .i64 0, aI .i64 0, aS ([] : List UInt8)]))]) mixed [qn0, qn0, qn0, qn0] ⟨[4, 5, 6], [], [4], [], [], [], []⟩ aN (by kernel_rfl) ?_
  refine W_ret ?_
  exact kr [] _ _ (by kernel_rfl) (Option.some.inj h)
set_option maxRecDepth 100000 in
theorem hindcastref04_One_j2_ok (n : Nat)  (a0 : (List UInt8)) (a1 : Int) (r_ : (GApiToken × Int × Int)) (Q' : Exit → St → Prop) (kr : ∀ (ns : List (Nat × Nat × Nat)) (s : LS) (x : (GApiToken × Int × Int)), retX Try.prog ns [.cell 4 49, .tmp 5, .tmp 6] s = some (.tup [e_GApiToken x.1, aI .i64 x.2.1, aI .i64 x.2.2]) → x = r_ → Q' .ret s.st)  (h : recN hindcastref04_One_B n (.j2 a0 a1) = some r_) : W Try.prog (subC (bodyC Try.prog 51) [1, 1, 1, 1, 1]) (LS.mk 124 [(0, aS a0), (1, aI .i64 a1), (4, .ptr 4 0)] [(4, some (.box 49 [aI .u8 0, aI .i64 0, aI .i64 0, aI .i64 0, aS ([] : List UInt8)]))]).st Q' := by
  cases n with
  | zero => cases h
  | succ m =>
  have hlt : m < m + 1 := Nat.lt_succ_self m
  replace h : hindcastref04_One_j2_b (recN hindcastref04_One_B m) a0 a1 = some r_ := h
  unfold hindcastref04_One_j2_b at h
  refine W_seq ?_
  refine W_y (s' := LS.mk 124 [(0, aS a0), (1, aI .i64 a1), (4, .ptr 4 0), (14, aS ([43, 45, 42, 47, 37, 60, 62, 33, 61, 40, 41, 123, 125, 91, 93, 44, 59, 58, 46] : List UInt8))] [(4, some (.box 49 [aI .u8 0, aI .i64 0, aI .i64 0, aI .i64 0, aS ([] : List UInt8)]))]) mixed [qn0] ⟨[0, 1, 4, 14], [], [4], [], [], [], []⟩ aN (by kernel_rfl) ?_
  refine W_seq ?_
  refine W_seq ?_
  refine W_y (s' := LS.mk 124 [(0, aS a0), (1, aI .i64 a1), (4, .ptr 4 0), (14, aS ([43, 45, 42, 47, 37, 60, 62, 33, 61, 40, 41, 123, 125, 91, 93, 44, 59, 58, 46] : List UInt8)), (15, aI .i64 0)] [(4, some (.box 49 [aI .u8 0, aI .i64 0, aI .i64 0, aI .i64 0, aS ([] : List UInt8)]))]) mixed [qn0] ⟨[0, 1, 4, 14, 15], [], [4], [], [], [], []⟩ aN (by kernel_rfl) ?_
  refine W_block ?_
  exact W_conv (s' := LS.mk 124 [(0, aS a0), (1, aI .i64 a1), (4, .ptr 4 0), (14, aS ([43, 45, 42, 47, 37, 60, 62, 33, 61, 40, 41, 123, 125, 91, 93, 44, 59, 58, 46] : List UInt8)), (15, aI .i64 0)] [(4, some (.box 49 [aI .u8 0, aI .i64 0, aI .i64 0, aI .i64 0, aS ([] : List UInt8)]))]) ⟨[0, 1, 4, 14, 15], [], [4], [], [], [], []⟩ (by kernel_rfl) (hindcastref04_One_l3_ok m a0 a1 0 r_ _ kr (fun q1 hq1  s' h hf => W_pre hf (hindcastref04_One_j4_ok q1 r_ _ kr h)) h)
noncomputable def hindcastref04_One (a0 : (List UInt8)) (a1 : Int) : Option (GApiToken × Int × Int) :=
  ((getI a0 a1).bind fun (x1_2 : UInt8) => ((hindcastref04_kind (x1_2.toNat : Int)).bind fun (r1_3 : Int) => (if r1_3 = 1 then hindcastref04_One_j0 a0 a1 else (if r1_3 = 2 then hindcastref04_One_j0 a0 a1 else (if r1_3 = 3 then none else (if (x1_2.toNat : Int) = 34 then (if CutR a1 (a0.length : Int) (a0.length : Int) then ((hindcastref03_Read (cutL a0 a1 (a0.length : Int))).bind fun (r14_3 : ((List UInt8) × Int × Bool)) => (if r14_3.2.2 = true then (some ((GApiToken.mk 5 0 0 0 r14_3.1), (w64 (a1 + r14_3.2.1)), 0)) else (some ((GApiToken.mk 0 0 0 0 ([] : List UInt8)), 0, 4)))) else none) else hindcastref04_One_l1 a0 a1 0))))))
set_option maxRecDepth 100000 in
theorem hindcastref04_One_ok {a0 : (List UInt8)} {a1 : Int} {r_ : (GApiToken × Int × Int)} (h : hindcastref04_One a0 a1 = some r_) : R_hindcastref04_One a0 a1 r_ := by
  unfold hindcastref04_One at h
  refine fn_pureX (fn := Try.f51) (by kernel_rfl) (c := subC (bodyC Try.prog 51) []) (by kernel_rfl) (by kernel_rfl) (Nat.le_of_ble_eq_true (by kernel_rfl)) ?_
  generalize hQ' : retQ Try.prog Try.f51 (.tup [e_GApiToken r_.1, aI .i64 r_.2.1, aI .i64 r_.2.2]) = Q'
  have kr : ∀ (ns : List (Nat × Nat × Nat)) (s : LS) (x : (GApiToken × Int × Int)), retX Try.prog ns [.cell 4 49, .tmp 5, .tmp 6] s = some (.tup [e_GApiToken x.1, aI .i64 x.2.1, aI .i64 x.2.2]) → x = r_ → Q' .ret s.st := by subst hQ'; intro ns s x hx hq; subst hq; exact ret_ok (fn := Try.f51) ns hx
  change W Try.prog _ (LS.mk 124 [(0, aS a0), (1, aI .i64 a1)] []).st Q'
  refine W_seq ?_
  refine W_y (s' := LS.mk 124 [(0, aS a0), (1, aI .i64 a1), (4, .ptr 4 0)] [(4, some (.box 49 [aI .u8 0, aI .i64 0, aI .i64 0, aI .i64 0, aS ([] : List UInt8)]))]) mixed [qn0, qn0, qn0] ⟨[0, 1, 4], [], [4], [], [], [], []⟩ aN (by kernel_rfl) ?_
  refine W_seq ?_
  refine W_seq ?_
  obtain ⟨x1_2, hx1_2, h⟩ := bind_ok h
  obtain ⟨r1_3, hr1_3, h⟩ := bind_ok h
  have hr1_3 := hindcastref04_kind_ok hr1_3
  refine W_y (s' := LS.mk 124 [(0, aS a0), (1, aI .i64 a1), (4, .ptr 4 0), (19, aI .i64 r1_3)] [(4, some (.box 49 [aI .u8 0, aI .i64 0, aI .i64 0, aI .i64 0, aS ([] : List UInt8)]))]) mixed [qn0, qn0, qn (.sx (Int.toNat a1) x1_2), qn (.call [] (aI .i64 r1_3))] ⟨[0, 1, 4, 19], [], [4], [], [], [], []⟩ (aC (sx_ob hx1_2) (aC hr1_3 aN)) (by kernel_rfl) ?_
  refine W_block ?_
  refine W_seq ?_
  refine W_seq ?_
  refine W_y (s' := LS.mk 124 [(0, aS a0), (1, aI .i64 a1), (4, .ptr 4 0), (19, aI .i64 r1_3), (20, aB (decide (r1_3 = 1)))] [(4, some (.box 49 [aI .u8 0, aI .i64 0, aI .i64 0, aI .i64 0, aS ([] : List UInt8)]))]) mixed [qn0, qn0] ⟨[0, 1, 4, 19, 20], [], [4], [], [], [], []⟩ aN (by kernel_rfl) ?_
  refine W_cond (decide (r1_3 = 1)) (by kernel_rfl) (fun hb1 => ?_) (fun hb1 => ?_)
  · have hx2 := hb1
    have h := if_t h hx2
    refine W_skip ?_
    refine W_cond (decide (r1_3 = 1)) (by kernel_rfl) (fun _ => ?_) (fun hb => nomatch ((hx2 : (decide (r1_3 = 1)) = true).symm.trans hb))
    obtain ⟨n, h⟩ := fix_rec h
    exact W_conv (s' := LS.mk 124 [(0, aS a0), (1, aI .i64 a1), (4, .ptr 4 0)] [(4, some (.box 49 [aI .u8 0, aI .i64 0, aI .i64 0, aI .i64 0, aS ([] : List UInt8)]))]) ⟨[0, 1, 4], [], [4], [], [], [], []⟩ (by kernel_rfl) (hindcastref04_One_j0_ok n a0 a1 r_ _ kr h)
  · have hx2 := hb1
    have h := if_f h hx2
    refine W_y (s' := LS.mk 124 [(0, aS a0), (1, aI .i64 a1), (4, .ptr 4 0), (19, aI .i64 r1_3), (20, aB (decide (r1_3 = 2)))] [(4, some (.box 49 [aI .u8 0, aI .i64 0, aI .i64 0, aI .i64 0, aS ([] : List UInt8)]))]) mixed [qn0, qn0] ⟨[0, 1, 4, 19, 20], [], [4], [], [], [], []⟩ aN (by kernel_rfl) ?_
    refine W_cond (decide (r1_3 = 2)) (by kernel_rfl) (fun hb3 => ?_) (fun hb3 => ?_)
    · have hx4 := hb3
      have h := if_t h hx4
      obtain ⟨n, h⟩ := fix_rec h
      exact W_conv (s' := LS.mk 124 [(0, aS a0), (1, aI .i64 a1), (4, .ptr 4 0)] [(4, some (.box 49 [aI .u8 0, aI .i64 0, aI .i64 0, aI .i64 0, aS ([] : List UInt8)]))]) ⟨[0, 1, 4], [], [4], [], [], [], []⟩ (by kernel_rfl) (hindcastref04_One_j0_ok n a0 a1 r_ _ kr h)
    · have hx4 := hb3
      have h := if_f h hx4
      refine W_seq ?_
      refine W_y (s' := LS.mk 124 [(0, aS a0), (1, aI .i64 a1), (4, .ptr 4 0), (43, aB (decide (r1_3 = 3)))] [(4, some (.box 49 [aI .u8 0, aI .i64 0, aI .i64 0, aI .i64 0, aS ([] : List UInt8)]))]) mixed [qn0, qn0] ⟨[0, 1, 4, 43], [], [4], [], [], [], []⟩ aN (by kernel_rfl) ?_
      refine W_cond (decide (r1_3 = 3)) (by kernel_rfl) (fun hb5 => ?_) (fun hb5 => ?_)
      · have hx6 := hb5
        have h := if_t h hx6
        refine W_seq ?_
        cases h
      · have hx6 := hb5
        have h := if_f h hx6
        refine W_skip ?_
        refine W_seq ?_
        refine W_seq ?_
        refine W_y (s' := LS.mk 124 [(0, aS a0), (1, aI .i64 a1), (4, .ptr 4 0), (54, aB (decide ((x1_2.toNat : Int) = 34)))] [(4, some (.box 49 [aI .u8 0, aI .i64 0, aI .i64 0, aI .i64 0, aS ([] : List UInt8)]))]) mixed [qn0, qn0, qn (.sx (Int.toNat a1) x1_2), qn0] ⟨[0, 1, 4, 54], [], [4], [], [], [], []⟩ (aC (sx_ob hx1_2) aN) (by kernel_rfl) ?_
        refine W_cond (decide ((x1_2.toNat : Int) = 34)) (by kernel_rfl) (fun hb7 => ?_) (fun hb7 => ?_)
        · have hx8 := hb7
          have h := if_t h hx8
          refine W_seq ?_
          obtain ⟨hd9, h⟩ := ite_ok h
          obtain ⟨r14_3, hr14_3, h⟩ := bind_ok h
          have hr14_3 := hindcastref03_Read_ok hr14_3
          refine W_y (s' := LS.mk 124 [(1, aI .i64 a1), (4, .ptr 4 0), (9, aS r14_3.1), (10, aI .i64 r14_3.2.1), (11, aB r14_3.2.2)] [(4, some (.box 49 [aI .u8 0, aI .i64 0, aI .i64 0, aI .i64 0, aS ([] : List UInt8)]))]) mixed [qn0, qn0, qn (.quiet (aS (cutL a0 a1 (a0.length : Int)))), qn (.call [] (.tup [aS r14_3.1, aI .i64 r14_3.2.1, aB r14_3.2.2])), qn0, qn0, qn0, qn0, qn0, qn0, qn0] ⟨[1, 4, 9, 10, 11], [], [4], [], [], [], []⟩ (aC (show Quiet Try.prog (opAt (subC (bodyC Try.prog 51) [1, 1, 0, 1, 0, 0]) 2) [aS a0, aI .i64 a1] (aS (cutL a0 a1 (a0.length : Int))) from cutS_obl (by rfl) (by kernel_rfl) hd9) (aC hr14_3 aN)) (by kernel_rfl) ?_
          refine W_seq ?_
          refine W_seq ?_
          refine W_y (s' := LS.mk 124 [(1, aI .i64 a1), (4, .ptr 4 0), (9, aS r14_3.1), (10, aI .i64 r14_3.2.1), (64, aB (!r14_3.2.2))] [(4, some (.box 49 [aI .u8 0, aI .i64 0, aI .i64 0, aI .i64 0, aS ([] : List UInt8)]))]) mixed [qn0, qn0] ⟨[1, 4, 9, 10, 64], [], [4], [], [], [], []⟩ aN (by kernel_rfl) ?_
          refine W_cond (!r14_3.2.2) (by kernel_rfl) (fun hb10 => ?_) (fun hb10 => ?_)
          · have hx11 : r14_3.2.2 = false := (bnot_t hb10)
            have h := ib_f h hx11
            refine W_seq ?_
            refine W_y (s' := LS.mk 124 [(4, .ptr 4 0), (5, aI .i64 0), (6, aI .i64 4)] [(4, some (.box 49 [aI .u8 0, aI .i64 0, aI .i64 0, aI .i64 0, aS ([] : List UInt8)]))]) mixed [qn0, qn0, qn0, qn0] ⟨[4, 5, 6], [], [4], [], [], [], []⟩ aN (by kernel_rfl) ?_
            refine W_ret ?_
            exact kr [] _ _ (by kernel_rfl) (Option.some.inj h)
          · have hx11 : r14_3.2.2 = true := (bnot_f hb10)
            have h := ib_t h hx11
            refine W_skip ?_
            refine W_seq ?_
            refine W_y (s' := LS.mk 124 [(4, .ptr 4 0), (5, aI .i64 (w64 (a1 + r14_3.2.1))), (6, aI .i64 0)] [(4, some (.box 49 [aI .u8 5, aI .i64 0, aI .i64 0, aI .i64 0, aS r14_3.1]))]) mixed [qn0, qn0, qn0, qn0, qn0, qn0, qn0, qn0] ⟨[4, 5, 6], [], [4], [], [], [], []⟩ aN (by kernel_rfl) ?_
            refine W_ret ?_
            exact kr [] _ _ (by kernel_rfl) (Option.some.inj h)
        · have hx8 := hb7
          have h := if_f h hx8
          refine W_skip ?_
          refine W_seq ?_
          refine W_y (s' := LS.mk 124 [(0, aS a0), (1, aI .i64 a1), (4, .ptr 4 0), (12, .ref 1012)] [(4, some (.box 49 [aI .u8 0, aI .i64 0, aI .i64 0, aI .i64 0, aS ([] : List UInt8)])), (1012, some (.row 9 1 (([([38, 38] : List UInt8), ([124, 124] : List UInt8), ([61, 61] : List UInt8), ([33, 61] : List UInt8), ([60, 61] : List UInt8), ([62, 61] : List UInt8)] : List (List UInt8)).map c_str)))]) mixed [qn0, qn0] ⟨[0, 1, 4, 12], [], [4], [], [(71, 1012)], [], []⟩ aN (by kernel_rfl) ?_
          refine W_seq ?_
          refine W_seq ?_
          refine W_y (s' := LS.mk 124 [(0, aS a0), (1, aI .i64 a1), (4, .ptr 4 0), (12, .ref 1012), (73, aI .i64 (([([38, 38] : List UInt8), ([124, 124] : List UInt8), ([61, 61] : List UInt8), ([33, 61] : List UInt8), ([60, 61] : List UInt8), ([62, 61] : List UInt8)] : List (List UInt8)).length : Int)), (74, aI .i64 0)] [(4, some (.box 49 [aI .u8 0, aI .i64 0, aI .i64 0, aI .i64 0, aS ([] : List UInt8)])), (1012, some (.row 9 1 (([([38, 38] : List UInt8), ([124, 124] : List UInt8), ([61, 61] : List UInt8), ([33, 61] : List UInt8), ([60, 61] : List UInt8), ([62, 61] : List UInt8)] : List (List UInt8)).map c_str)))]) mixed [qn0, qn (.len ([([38, 38] : List UInt8), ([124, 124] : List UInt8), ([61, 61] : List UInt8), ([33, 61] : List UInt8), ([60, 61] : List UInt8), ([62, 61] : List UInt8)] : List (List UInt8)).length), qn0] ⟨[0, 1, 4, 12, 73, 74], [], [4], [], [(1012, 1012)], [], []⟩ (aC (len_obx c_str ([([38, 38] : List UInt8), ([124, 124] : List UInt8), ([61, 61] : List UInt8), ([33, 61] : List UInt8), ([60, 61] : List UInt8), ([62, 61] : List UInt8)] : List (List UInt8))) aN) (by kernel_rfl) ?_
          refine W_block ?_
          obtain ⟨n, h⟩ := fix_rec h
          exact W_conv (s' := LS.mk 124 [(0, aS a0), (1, aI .i64 a1), (4, .ptr 4 0), (12, .ref 1012), (73, aI .i64 (([([38, 38] : List UInt8), ([124, 124] : List UInt8), ([61, 61] : List UInt8), ([33, 61] : List UInt8), ([60, 61] : List UInt8), ([62, 61] : List UInt8)] : List (List UInt8)).length : Int)), (74, aI .i64 0)] [(4, some (.box 49 [aI .u8 0, aI .i64 0, aI .i64 0, aI .i64 0, aS ([] : List UInt8)])), (1012, some (.row 9 1 (([([38, 38] : List UInt8), ([124, 124] : List UInt8), ([61, 61] : List UInt8), ([33, 61] : List UInt8), ([60, 61] : List UInt8), ([62, 61] : List UInt8)] : List (List UInt8)).map c_str)))]) ⟨[0, 1, 4, 12, 73, 74], [], [4], [], [(1012, 1012)], [], []⟩ (by kernel_rfl) (hindcastref04_One_l1_ok n a0 a1 0 r_ _ kr (fun q1 hq1  s' h hf => W_pre hf (hindcastref04_One_j2_ok q1 a0 a1 r_ _ kr h)) h)
def R_hindcastref05_named (a0 : (List UInt8)) (a1 : Int) (r : Bool) : Prop := FnP Try.prog 37 [aS a0, aI .u8 a1] (aB r)
noncomputable def hindcastref05_named_j0 (a0 : (List UInt8)) (a1 : Int) : Option Bool :=
  ((hindcastref04_One a0 0).bind fun (r3_1 : (GApiToken × Int × Int)) => (if r3_1.2.2 = 0 then (if r3_1.2.1 = (a0.length : Int) then (some (decide (r3_1.1.Kind = a1))) else (some false)) else (some false)))
set_option maxRecDepth 100000 in
theorem hindcastref05_named_j0_ok (a0 : (List UInt8)) (a1 : Int) (r_ : Bool) (Q' : Exit → St → Prop) (kr : ∀ (ns : List (Nat × Nat × Nat)) (s : LS) (x : Bool), retX Try.prog ns [.tmp 4] s = some (aB x) → x = r_ → Q' .ret s.st)  (h : hindcastref05_named_j0 a0 a1 = some r_) : W Try.prog (subC (bodyC Try.prog 37) [1, 1]) (LS.mk 41 [(0, aS a0), (1, aI .u8 a1)] []).st Q' := by
  unfold hindcastref05_named_j0 at h
  refine W_seq ?_
  obtain ⟨r3_1, hr3_1, h⟩ := bind_ok h
  have hr3_1 := hindcastref04_One_ok hr3_1
  refine W_y (s' := LS.mk 41 [(0, aS a0), (1, aI .u8 a1), (5, .ptr 5 0), (6, aI .i64 r3_1.2.1), (7, aI .i64 r3_1.2.2)] [(5, some (.box 49 [aI .u8 r3_1.1.Kind, aI .i64 r3_1.1.Line, aI .i64 r3_1.1.Col, aI .i64 r3_1.1.Num, aS r3_1.1.Text]))]) mixed [qn0, qn (.call [] (.tup [e_GApiToken r3_1.1, aI .i64 r3_1.2.1, aI .i64 r3_1.2.2])), qn0, qn0, qn0, qn0, qn0, qn0, qn0, qn0] ⟨[0, 1, 5, 6, 7], [], [5], [], [], [], []⟩ (aC hr3_1 aN) (by kernel_rfl) ?_
  refine W_seq ?_
  refine (Bool.eq_false_or_eq_true (decide (r3_1.2.2 = 0))).elim (fun hb1001 => ?_) (fun hb1001 => ?_)
  · have hx1002 := hb1001
    have h := if_t h hx1002
    refine (Bool.eq_false_or_eq_true (decide (r3_1.2.1 = (a0.length : Int)))).elim (fun hb1003 => ?_) (fun hb1003 => ?_)
    · have hx1004 := hb1003
      have h := if_t h hx1004
      refine W_y (s' := LS.mk 41 [(4, aB (decide (r3_1.1.Kind = a1)))] []) mixed [qn0, qn0, qn0, qt0, qt0, qt0, qt0, qn (.dec true), qn0, qt0, qt0, qt0, qt0, qn (.dec true), qn0] ⟨[4], [], [], [], [], [], []⟩ (aC hx1002 (aC hx1002 (aC hx1002 (aC hx1002 (aC hx1002 (aC hx1004 (aC hx1004 (aC hx1004 (aC hx1004 (aC hx1004 aN)))))))))) (by kernel_rfl) ?_
      refine W_ret ?_
      exact kr [] _ _ (by kernel_rfl) (Option.some.inj h)
    · have hx1004 := hb1003
      have h := if_f h hx1004
      refine W_y (s' := LS.mk 41 [(4, aB false)] []) mixed [qn0, qn0, qn0, qt0, qt0, qt0, qt0, qn (.dec true), qn0, qf0, qf0, qf0, qf0, qn (.dec false), qn0] ⟨[4], [], [], [], [], [], []⟩ (aC hx1002 (aC hx1002 (aC hx1002 (aC hx1002 (aC hx1002 (aC hx1004 (aC hx1004 (aC hx1004 (aC hx1004 (aC hx1004 aN)))))))))) (by kernel_rfl) ?_
      refine W_ret ?_
      exact kr [] _ _ (by kernel_rfl) (Option.some.inj h)
  · have hx1002 := hb1001
    have h := if_f h hx1002
    refine W_y (s' := LS.mk 41 [(4, aB false)] []) mixed [qn0, qn0, qn0, qf0, qf0, qf0, qf0, qn (.dec false), qn0, qn0, qn0, qn0, qn0, qn0, qn0] ⟨[4], [], [], [], [], [], []⟩ (aC hx1002 (aC hx1002 (aC hx1002 (aC hx1002 (aC hx1002 aN))))) (by kernel_rfl) ?_
    refine W_ret ?_
    exact kr [] _ _ (by kernel_rfl) (Option.some.inj h)
noncomputable def hindcastref05_named (a0 : (List UInt8)) (a1 : Int) : Option Bool :=
  (if (a0.length : Int) = 0 then (some false) else ((getI a0 0).bind fun (x1_5 : UInt8) => (if (x1_5.toNat : Int) ≥ 48 then (if (x1_5.toNat : Int) ≤ 57 then (some false) else hindcastref05_named_j0 a0 a1) else hindcastref05_named_j0 a0 a1)))
set_option maxRecDepth 100000 in
theorem hindcastref05_named_ok {a0 : (List UInt8)} {a1 : Int} {r_ : Bool} (h : hindcastref05_named a0 a1 = some r_) : R_hindcastref05_named a0 a1 r_ := by
  unfold hindcastref05_named at h
  refine fn_pureX (fn := Try.f37) (by kernel_rfl) (c := subC (bodyC Try.prog 37) []) (by kernel_rfl) (by kernel_rfl) (Nat.le_of_ble_eq_true (by kernel_rfl)) ?_
  generalize hQ' : retQ Try.prog Try.f37 (aB r_) = Q'
  have kr : ∀ (ns : List (Nat × Nat × Nat)) (s : LS) (x : Bool), retX Try.prog ns [.tmp 4] s = some (aB x) → x = r_ → Q' .ret s.st := by subst hQ'; intro ns s x hx hq; subst hq; exact ret_ok (fn := Try.f37) ns hx
  change W Try.prog _ (LS.mk 41 [(0, aS a0), (1, aI .u8 a1)] []).st Q'
  refine W_seq ?_
  refine W_y (s' := LS.mk 41 [(0, aS a0), (1, aI .u8 a1)] []) mixed [qn0] ⟨[0, 1], [], [], [], [], [], []⟩ aN (by kernel_rfl) ?_
  refine W_seq ?_
  refine W_seq ?_
  refine (Bool.eq_false_or_eq_true (decide ((a0.length : Int) = 0))).elim (fun hb1 => ?_) (fun hb1 => ?_)
  · have hx2 := hb1
    have h := if_t h hx2
    refine W_y (s' := LS.mk 41 [(0, aS a0), (1, aI .u8 a1), (20, aB true)] []) mixed [qn0, qn0, qn0, qn0, qt0, qt0, qt0, qt0, qn0, qn0, qn0, qt0, qn (.dec true)] ⟨[0, 1, 20], [], [], [], [], [], []⟩ (aC hx2 (aC hx2 (aC hx2 (aC hx2 (aC hx2 (aC hx2 aN)))))) (by kernel_rfl) ?_
    refine W_cond true (by kernel_rfl) (fun _ => ?_) (fun hb => nomatch ((rfl : true = true).symm.trans hb))
    refine W_seq ?_
    refine W_y (s' := LS.mk 41 [(4, aB false)] []) mixed [qn0] ⟨[4], [], [], [], [], [], []⟩ aN (by kernel_rfl) ?_
    refine W_ret ?_
    exact kr [] _ _ (by kernel_rfl) (Option.some.inj h)
  · have hx2 := hb1
    have h := if_f h hx2
    obtain ⟨x1_5, hx1_5, h⟩ := bind_ok h
    refine (Bool.eq_false_or_eq_true (decide ((x1_5.toNat : Int) ≥ 48))).elim (fun hb3 => ?_) (fun hb3 => ?_)
    · have hx4 := hb3
      have h := if_t h hx4
      refine W_y (s' := LS.mk 41 [(0, aS a0), (1, aI .u8 a1), (20, aB (decide ((x1_5.toNat : Int) ≤ 57)))] []) mixed [qn0, qn0, qn0, qn0, qf0, qf (.sx (Int.toNat 0) x1_5), qf0, qf0, qt0, qt (.sx (Int.toNat 0) x1_5), qt0, qf (.dec true), qn (.dec false)] ⟨[0, 1, 20], [], [], [], [], [], []⟩ (aC hx2 (aC hx2 (aC (sx_ob hx1_5) (aC hx2 (aC hx2 (aC hx4 (aC hx4 (aC (sx_ob hx1_5) (aC hx4 (aC hx2 (aC hx4 (aC hx2 aN)))))))))))) (by kernel_rfl) ?_
      refine W_cond (decide ((x1_5.toNat : Int) ≤ 57)) (by kernel_rfl) (fun hb5 => ?_) (fun hb5 => ?_)
      · have hx6 := hb5
        have h := if_t h hx6
        refine W_seq ?_
        refine W_y (s' := LS.mk 41 [(4, aB false)] []) mixed [qn0] ⟨[4], [], [], [], [], [], []⟩ aN (by kernel_rfl) ?_
        refine W_ret ?_
        exact kr [] _ _ (by kernel_rfl) (Option.some.inj h)
      · have hx6 := hb5
        have h := if_f h hx6
        refine W_skip ?_
        exact W_conv (s' := LS.mk 41 [(0, aS a0), (1, aI .u8 a1)] []) ⟨[0, 1], [], [], [], [], [], []⟩ (by kernel_rfl) (hindcastref05_named_j0_ok a0 a1 r_ _ kr h)
    · have hx4 := hb3
      have h := if_f h hx4
      refine W_y (s' := LS.mk 41 [(0, aS a0), (1, aI .u8 a1), (20, aB false)] []) mixed [qn0, qn0, qn0, qn0, qf0, qf (.sx (Int.toNat 0) x1_5), qf0, qf0, qf0, qf0, qf0, qf (.dec false), qn (.dec false)] ⟨[0, 1, 20], [], [], [], [], [], []⟩ (aC hx2 (aC hx2 (aC (sx_ob hx1_5) (aC hx2 (aC hx2 (aC hx4 (aC hx4 (aC hx4 (aC hx2 (aC hx4 (aC hx2 aN))))))))))) (by kernel_rfl) ?_
      refine W_cond false (by kernel_rfl) (fun hb => nomatch ((rfl : false = false).symm.trans hb)) (fun _ => ?_)
      refine W_skip ?_
      exact W_conv (s' := LS.mk 41 [(0, aS a0), (1, aI .u8 a1)] []) ⟨[0, 1], [], [], [], [], [], []⟩ (by kernel_rfl) (hindcastref05_named_j0_ok a0 a1 r_ _ kr h)
def R_hindcastref05_Name (a0 : (List UInt8)) (r : Bool) : Prop := FnP Try.prog 15 [aS a0] (aB r)
noncomputable def hindcastref05_Name (a0 : (List UInt8)) : Option Bool :=
  ((hindcastref05_named a0 1).bind fun (r1_1 : Bool) => (some r1_1))
set_option maxRecDepth 100000 in
theorem hindcastref05_Name_ok {a0 : (List UInt8)} {r_ : Bool} (h : hindcastref05_Name a0 = some r_) : R_hindcastref05_Name a0 r_ := by
  unfold hindcastref05_Name at h
  refine fn_pureX (fn := Try.f15) (by kernel_rfl) (c := subC (bodyC Try.prog 15) []) (by kernel_rfl) (by kernel_rfl) (Nat.le_of_ble_eq_true (by kernel_rfl)) ?_
  generalize hQ' : retQ Try.prog Try.f15 (aB r_) = Q'
  have kr : ∀ (ns : List (Nat × Nat × Nat)) (s : LS) (x : Bool), retX Try.prog ns [.tmp 2] s = some (aB x) → x = r_ → Q' .ret s.st := by subst hQ'; intro ns s x hx hq; subst hq; exact ret_ok (fn := Try.f15) ns hx
  change W Try.prog _ (LS.mk 5 [(0, aS a0)] []).st Q'
  refine W_seq ?_
  refine W_y (s' := LS.mk 5 [(0, aS a0)] []) mixed [qn0] ⟨[0], [], [], [], [], [], []⟩ aN (by kernel_rfl) ?_
  refine W_seq ?_
  obtain ⟨r1_1, hr1_1, h⟩ := bind_ok h
  have hr1_1 := hindcastref05_named_ok hr1_1
  refine W_y (s' := LS.mk 5 [(2, aB r1_1)] []) mixed [qn0, qn (.call [] (aB r1_1)), qn0] ⟨[2], [], [], [], [], [], []⟩ (aC hr1_1 aN) (by kernel_rfl) ?_
  refine W_ret ?_
  exact kr [] _ _ (by kernel_rfl) (Option.some.inj h)
def R_hindcastref05_Great (a0 : (List UInt8)) (r : Bool) : Prop := FnP Try.prog 17 [aS a0] (aB r)
noncomputable def hindcastref05_Great (a0 : (List UInt8)) : Option Bool :=
  ((hindcastref05_named a0 2).bind fun (r1_1 : Bool) => (some r1_1))
set_option maxRecDepth 100000 in
theorem hindcastref05_Great_ok {a0 : (List UInt8)} {r_ : Bool} (h : hindcastref05_Great a0 = some r_) : R_hindcastref05_Great a0 r_ := by
  unfold hindcastref05_Great at h
  refine fn_pureX (fn := Try.f17) (by kernel_rfl) (c := subC (bodyC Try.prog 17) []) (by kernel_rfl) (by kernel_rfl) (Nat.le_of_ble_eq_true (by kernel_rfl)) ?_
  generalize hQ' : retQ Try.prog Try.f17 (aB r_) = Q'
  have kr : ∀ (ns : List (Nat × Nat × Nat)) (s : LS) (x : Bool), retX Try.prog ns [.tmp 2] s = some (aB x) → x = r_ → Q' .ret s.st := by subst hQ'; intro ns s x hx hq; subst hq; exact ret_ok (fn := Try.f17) ns hx
  change W Try.prog _ (LS.mk 5 [(0, aS a0)] []).st Q'
  refine W_seq ?_
  refine W_y (s' := LS.mk 5 [(0, aS a0)] []) mixed [qn0] ⟨[0], [], [], [], [], [], []⟩ aN (by kernel_rfl) ?_
  refine W_seq ?_
  obtain ⟨r1_1, hr1_1, h⟩ := bind_ok h
  have hr1_1 := hindcastref05_named_ok hr1_1
  refine W_y (s' := LS.mk 5 [(2, aB r1_1)] []) mixed [qn0, qn (.call [] (aB r1_1)), qn0] ⟨[2], [], [], [], [], [], []⟩ (aC hr1_1 aN) (by kernel_rfl) ?_
  refine W_ret ?_
  exact kr [] _ _ (by kernel_rfl) (Option.some.inj h)
def R_hindcastlaw05_TreeNames (a0 : (List UInt8)) (r : Bool) : Prop := FnP Try.prog 4 [aS a0] (aB r)
noncomputable def hindcastlaw05_TreeNames (a0 : (List UInt8)) : Option Bool :=
  (if (a0.length : Int) > 100 then ((hindcastlaw05_awake).bind fun (r1_4 : Bool) => (if r1_4 = true then (some true) else ((tree_Name a0).bind fun (r1_8 : Bool) => ((hindcastref05_Name a0).bind fun (r1_10 : Bool) => (if (r1_8 == r1_10) = true then ((tree_Great a0).bind fun (r1_14 : Bool) => ((hindcastref05_Great a0).bind fun (r1_16 : Bool) => (if (r1_14 == r1_16) = true then ((hindcastlaw05_awake).bind fun (r1_20 : Bool) => (some r1_20)) else (some false)))) else (some false)))))) else ((tree_Name a0).bind fun (r1_8 : Bool) => ((hindcastref05_Name a0).bind fun (r1_10 : Bool) => (if (r1_8 == r1_10) = true then ((tree_Great a0).bind fun (r1_14 : Bool) => ((hindcastref05_Great a0).bind fun (r1_16 : Bool) => (if (r1_14 == r1_16) = true then ((hindcastlaw05_awake).bind fun (r1_20 : Bool) => (some r1_20)) else (some false)))) else (some false)))))
set_option maxRecDepth 100000 in
theorem hindcastlaw05_TreeNames_ok {a0 : (List UInt8)} {r_ : Bool} (h : hindcastlaw05_TreeNames a0 = some r_) : R_hindcastlaw05_TreeNames a0 r_ := by
  unfold hindcastlaw05_TreeNames at h
  refine fn_pureX (fn := Try.f4) (by kernel_rfl) (c := subC (bodyC Try.prog 4) []) (by kernel_rfl) (by kernel_rfl) (Nat.le_of_ble_eq_true (by kernel_rfl)) ?_
  generalize hQ' : retQ Try.prog Try.f4 (aB r_) = Q'
  have kr : ∀ (ns : List (Nat × Nat × Nat)) (s : LS) (x : Bool), retX Try.prog ns [.tmp 2] s = some (aB x) → x = r_ → Q' .ret s.st := by subst hQ'; intro ns s x hx hq; subst hq; exact ret_ok (fn := Try.f4) ns hx
  change W Try.prog _ (LS.mk 26 [(0, aS a0)] []).st Q'
  refine W_seq ?_
  refine W_y (s' := LS.mk 26 [(0, aS a0)] []) mixed [qn0] ⟨[0], [], [], [], [], [], []⟩ aN (by kernel_rfl) ?_
  refine W_seq ?_
  refine (Bool.eq_false_or_eq_true (decide ((a0.length : Int) > 100))).elim (fun hb1 => ?_) (fun hb1 => ?_)
  · have hx2 := hb1
    have h := if_t h hx2
    obtain ⟨r1_4, hr1_4, h⟩ := bind_ok h
    have hr1_4 := hindcastlaw05_awake_ok hr1_4
    refine (Bool.eq_false_or_eq_true r1_4).elim (fun hb3 => ?_) (fun hb3 => ?_)
    · have hx4 := hb3
      have h := ib_t h hx4
      refine W_y (s' := LS.mk 26 [(2, aB true)] []) mixed [qn0, qn0, qn0, qn0, qt (.call [] (aB r1_4)), qn (.dec true), qn0, qt0, qt0, qt0, qt0, qt0, qt0, qn0, qn0, qn0, qn0, qn0, qt0, qt0, qn0, qt0, qn (.dec true), qn0] ⟨[2], [], [], [], [], [], []⟩ (aC hx2 (aC hr1_4 (aC hx2 (aC hx4 (aC hx4 (aC hx4 (aC hx4 (aC hx4 (aC hx4 (aC hx4 (aC hx4 (aC hx4 (aC hx4 aN))))))))))))) (by kernel_rfl) ?_
      refine W_ret ?_
      exact kr [] _ _ (by kernel_rfl) (Option.some.inj h)
    · have hx4 := hb3
      have h := ib_f h hx4
      obtain ⟨r1_8, hr1_8, h⟩ := bind_ok h
      have hr1_8 := tree_Name_ok hr1_8
      obtain ⟨r1_10, hr1_10, h⟩ := bind_ok h
      have hr1_10 := hindcastref05_Name_ok hr1_10
      refine (Bool.eq_false_or_eq_true (r1_8 == r1_10)).elim (fun hb5 => ?_) (fun hb5 => ?_)
      · have hx6 := hb5
        have h := ib_t h hx6
        obtain ⟨r1_14, hr1_14, h⟩ := bind_ok h
        have hr1_14 := tree_Great_ok hr1_14
        obtain ⟨r1_16, hr1_16, h⟩ := bind_ok h
        have hr1_16 := hindcastref05_Great_ok hr1_16
        refine (Bool.eq_false_or_eq_true (r1_14 == r1_16)).elim (fun hb7 => ?_) (fun hb7 => ?_)
        · have hx8 := hb7
          have h := ib_t h hx8
          obtain ⟨r1_20, hr1_20, h⟩ := bind_ok h
          have hr1_20 := hindcastlaw05_awake_ok hr1_20
          refine W_y (s' := LS.mk 26 [(2, aB r1_20)] []) mixed [qn0, qn0, qn0, qn0, qt (.call [] (aB r1_4)), qn (.dec true), qn0, qf0, qf (.call [] (aB r1_8)), qf0, qf (.call [] (aB r1_10)), qf0, qf0, qt0, qt (.call [] (aB r1_14)), qt0, qt (.call [] (aB r1_16)), qt0, qf (.dec true), qf0, qt (.call [] (aB r1_20)), qf (.dec true), qn (.dec false), qn0] ⟨[2], [], [], [], [], [], []⟩ (aC hx2 (aC hr1_4 (aC hx2 (aC hx4 (aC hx4 (aC hr1_8 (aC hx4 (aC hx4 (aC hr1_10 (aC hx4 (aC hx4 (aC hx6 (aC hx6 (aC hr1_14 (aC hx6 (aC hx6 (aC hr1_16 (aC hx6 (aC hx4 (aC hx6 (aC hx4 (aC hx8 (aC hr1_20 (aC hx4 (aC hx8 (aC hx4 aN)))))))))))))))))))))))))) (by kernel_rfl) ?_
          refine W_ret ?_
          exact kr [] _ _ (by kernel_rfl) (Option.some.inj h)
        · have hx8 := hb7
          have h := ib_f h hx8
          refine W_y (s' := LS.mk 26 [(2, aB false)] []) mixed [qn0, qn0, qn0, qn0, qt (.call [] (aB r1_4)), qn (.dec true), qn0, qf0, qf (.call [] (aB r1_8)), qf0, qf (.call [] (aB r1_10)), qf0, qf0, qt0, qt (.call [] (aB r1_14)), qt0, qt (.call [] (aB r1_16)), qt0, qf (.dec true), qf0, qf0, qf (.dec false), qn (.dec false), qn0] ⟨[2], [], [], [], [], [], []⟩ (aC hx2 (aC hr1_4 (aC hx2 (aC hx4 (aC hx4 (aC hr1_8 (aC hx4 (aC hx4 (aC hr1_10 (aC hx4 (aC hx4 (aC hx6 (aC hx6 (aC hr1_14 (aC hx6 (aC hx6 (aC hr1_16 (aC hx6 (aC hx4 (aC hx6 (aC hx4 (aC hx8 (aC hx4 (aC hx8 (aC hx4 aN))))))))))))))))))))))))) (by kernel_rfl) ?_
          refine W_ret ?_
          exact kr [] _ _ (by kernel_rfl) (Option.some.inj h)
      · have hx6 := hb5
        have h := ib_f h hx6
        refine W_y (s' := LS.mk 26 [(2, aB false)] []) mixed [qn0, qn0, qn0, qn0, qt (.call [] (aB r1_4)), qn (.dec true), qn0, qf0, qf (.call [] (aB r1_8)), qf0, qf (.call [] (aB r1_10)), qf0, qf0, qf0, qf0, qf0, qf0, qf0, qf (.dec false), qf0, qn0, qf0, qn (.dec false), qn0] ⟨[2], [], [], [], [], [], []⟩ (aC hx2 (aC hr1_4 (aC hx2 (aC hx4 (aC hx4 (aC hr1_8 (aC hx4 (aC hx4 (aC hr1_10 (aC hx4 (aC hx4 (aC hx6 (aC hx6 (aC hx6 (aC hx6 (aC hx6 (aC hx4 (aC hx6 (aC hx4 (aC hx4 (aC hx4 aN))))))))))))))))))))) (by kernel_rfl) ?_
        refine W_ret ?_
        exact kr [] _ _ (by kernel_rfl) (Option.some.inj h)
  · have hx2 := hb1
    have h := if_f h hx2
    obtain ⟨r1_8, hr1_8, h⟩ := bind_ok h
    have hr1_8 := tree_Name_ok hr1_8
    obtain ⟨r1_10, hr1_10, h⟩ := bind_ok h
    have hr1_10 := hindcastref05_Name_ok hr1_10
    refine (Bool.eq_false_or_eq_true (r1_8 == r1_10)).elim (fun hb9 => ?_) (fun hb9 => ?_)
    · have hx10 := hb9
      have h := ib_t h hx10
      obtain ⟨r1_14, hr1_14, h⟩ := bind_ok h
      have hr1_14 := tree_Great_ok hr1_14
      obtain ⟨r1_16, hr1_16, h⟩ := bind_ok h
      have hr1_16 := hindcastref05_Great_ok hr1_16
      refine (Bool.eq_false_or_eq_true (r1_14 == r1_16)).elim (fun hb11 => ?_) (fun hb11 => ?_)
      · have hx12 := hb11
        have h := ib_t h hx12
        obtain ⟨r1_20, hr1_20, h⟩ := bind_ok h
        have hr1_20 := hindcastlaw05_awake_ok hr1_20
        refine W_y (s' := LS.mk 26 [(2, aB r1_20)] []) mixed [qn0, qn0, qn0, qn0, qf0, qn (.dec false), qn0, qn0, qn (.call [] (aB r1_8)), qn0, qn (.call [] (aB r1_10)), qn0, qn0, qt0, qt (.call [] (aB r1_14)), qt0, qt (.call [] (aB r1_16)), qt0, qn (.dec true), qn0, qt (.call [] (aB r1_20)), qn (.dec true), qn0, qn0] ⟨[2], [], [], [], [], [], []⟩ (aC hx2 (aC hx2 (aC hr1_8 (aC hr1_10 (aC hx10 (aC hx10 (aC hr1_14 (aC hx10 (aC hx10 (aC hr1_16 (aC hx10 (aC hx10 (aC hx12 (aC hr1_20 (aC hx12 aN))))))))))))))) (by kernel_rfl) ?_
        refine W_ret ?_
        exact kr [] _ _ (by kernel_rfl) (Option.some.inj h)
      · have hx12 := hb11
        have h := ib_f h hx12
        refine W_y (s' := LS.mk 26 [(2, aB false)] []) mixed [qn0, qn0, qn0, qn0, qf0, qn (.dec false), qn0, qn0, qn (.call [] (aB r1_8)), qn0, qn (.call [] (aB r1_10)), qn0, qn0, qt0, qt (.call [] (aB r1_14)), qt0, qt (.call [] (aB r1_16)), qt0, qn (.dec true), qn0, qf0, qn (.dec false), qn0, qn0] ⟨[2], [], [], [], [], [], []⟩ (aC hx2 (aC hx2 (aC hr1_8 (aC hr1_10 (aC hx10 (aC hx10 (aC hr1_14 (aC hx10 (aC hx10 (aC hr1_16 (aC hx10 (aC hx10 (aC hx12 (aC hx12 aN)))))))))))))) (by kernel_rfl) ?_
        refine W_ret ?_
        exact kr [] _ _ (by kernel_rfl) (Option.some.inj h)
    · have hx10 := hb9
      have h := ib_f h hx10
      refine W_y (s' := LS.mk 26 [(2, aB false)] []) mixed [qn0, qn0, qn0, qn0, qf0, qn (.dec false), qn0, qn0, qn (.call [] (aB r1_8)), qn0, qn (.call [] (aB r1_10)), qn0, qn0, qf0, qf0, qf0, qf0, qf0, qn (.dec false), qn0, qn0, qn0, qn0, qn0] ⟨[2], [], [], [], [], [], []⟩ (aC hx2 (aC hx2 (aC hr1_8 (aC hr1_10 (aC hx10 (aC hx10 (aC hx10 (aC hx10 (aC hx10 (aC hx10 aN)))))))))) (by kernel_rfl) ?_
      refine W_ret ?_
      exact kr [] _ _ (by kernel_rfl) (Option.some.inj h)
end Go.Proofs.Ytahioekdpndohaa
