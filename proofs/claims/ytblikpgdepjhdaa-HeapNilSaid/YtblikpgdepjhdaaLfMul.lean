/- Functions of the program, lifted. -/
import Derived.Test.YtblikpgdepjhdaaLfTy
namespace Go.Proofs.Ytblikpgdepjhdaa
open Go.RowKit
set_option linter.unusedVariables false
set_option maxHeartbeats 4000000
def R_math_bits_Mul32 (a0 : Int) (a1 : Int) (r : (Int × Int)) : Prop := FnP Try.prog 52 [aI .u32 a0, aI .u32 a1] (.tup [aI .u32 r.1, aI .u32 r.2])
noncomputable def math_bits_Mul32 (a0 : Int) (a1 : Int) : Option (Int × Int) :=
  (some ((IntKind.wrap .u32 (Int.fdiv (IntKind.wrap .u64 ((IntKind.wrap .u64 a0) * (IntKind.wrap .u64 a1))) (2 ^ 32))), (IntKind.wrap .u32 (IntKind.wrap .u64 ((IntKind.wrap .u64 a0) * (IntKind.wrap .u64 a1))))))
set_option maxRecDepth 100000 in
theorem math_bits_Mul32_ok {a0 : Int} {a1 : Int} {r_ : (Int × Int)} (h : math_bits_Mul32 a0 a1 = some r_) : R_math_bits_Mul32 a0 a1 r_ := by
  unfold math_bits_Mul32 at h
  refine fn_pureX (fn := Try.f52) (by kernel_rfl) (c := subC (bodyC Try.prog 52) []) (by kernel_rfl) (by kernel_rfl) (Nat.le_of_ble_eq_true (by kernel_rfl)) ?_
  generalize hQ' : retQ Try.prog Try.f52 (.tup [aI .u32 r_.1, aI .u32 r_.2]) = Q'
  have kr : ∀ (ns : List (Nat × Nat × Nat)) (s : LS) (x : (Int × Int)), retX Try.prog ns [.tmp 4, .tmp 5] s = some (.tup [aI .u32 x.1, aI .u32 x.2]) → x = r_ → Q' .ret s.st := by subst hQ'; intro ns s x hx hq; subst hq; exact ret_ok (fn := Try.f52) ns hx
  change W Try.prog _ (LS.mk 17 [(0, aI .u32 a0), (1, aI .u32 a1)] []).st Q'
  refine W_seq ?_
  refine W_y (s' := LS.mk 17 [(0, aI .u32 a0), (1, aI .u32 a1)] []) mixed [qn0, qn0] ⟨[0, 1], [], [], [], [], [], []⟩ aN (by kernel_rfl) ?_
  refine W_seq ?_
  refine W_y (s' := LS.mk 17 [(6, aI .u64 (IntKind.wrap .u64 ((IntKind.wrap .u64 a0) * (IntKind.wrap .u64 a1))))] []) mixed [qn0, qn0, qn0, qn0, qn0, qn0] ⟨[6], [], [], [], [], [], []⟩ aN (by kernel_rfl) ?_
  refine W_seq ?_
  refine W_y (s' := LS.mk 17 [(4, aI .u32 (IntKind.wrap .u32 (Int.fdiv (IntKind.wrap .u64 ((IntKind.wrap .u64 a0) * (IntKind.wrap .u64 a1))) (2 ^ 32)))), (5, aI .u32 (IntKind.wrap .u32 (IntKind.wrap .u64 ((IntKind.wrap .u64 a0) * (IntKind.wrap .u64 a1)))))] []) mixed [qn0, qn0, qn0, qn0, qn0, qn0, qn0] ⟨[4, 5], [], [], [], [], [], []⟩ aN (by kernel_rfl) ?_
  refine W_ret ?_
  exact kr [] _ _ (by kernel_rfl) (Option.some.inj h)
def R_math_bits_Mul64 (a0 : Int) (a1 : Int) (r : (Int × Int)) : Prop := FnP Try.prog 53 [aI .u64 a0, aI .u64 a1] (.tup [aI .u64 r.1, aI .u64 r.2])
noncomputable def math_bits_Mul64 (a0 : Int) (a1 : Int) : Option (Int × Int) :=
  (some ((IntKind.wrap .u64 ((IntKind.wrap .u64 ((IntKind.wrap .u64 ((Int.fdiv a0 (2 ^ 32)) * (Int.fdiv a1 (2 ^ 32)))) + (Int.fdiv (IntKind.wrap .u64 ((IntKind.wrap .u64 ((Int.fdiv a0 (2 ^ 32)) * (IntKind.wrap .u64 ((BitVec.ofInt 64 a1 &&& BitVec.ofInt 64 4294967295).toNat : Int)))) + (Int.fdiv (IntKind.wrap .u64 ((IntKind.wrap .u64 ((BitVec.ofInt 64 a0 &&& BitVec.ofInt 64 4294967295).toNat : Int)) * (IntKind.wrap .u64 ((BitVec.ofInt 64 a1 &&& BitVec.ofInt 64 4294967295).toNat : Int)))) (2 ^ 32)))) (2 ^ 32)))) + (Int.fdiv (IntKind.wrap .u64 ((IntKind.wrap .u64 ((BitVec.ofInt 64 (IntKind.wrap .u64 ((IntKind.wrap .u64 ((Int.fdiv a0 (2 ^ 32)) * (IntKind.wrap .u64 ((BitVec.ofInt 64 a1 &&& BitVec.ofInt 64 4294967295).toNat : Int)))) + (Int.fdiv (IntKind.wrap .u64 ((IntKind.wrap .u64 ((BitVec.ofInt 64 a0 &&& BitVec.ofInt 64 4294967295).toNat : Int)) * (IntKind.wrap .u64 ((BitVec.ofInt 64 a1 &&& BitVec.ofInt 64 4294967295).toNat : Int)))) (2 ^ 32)))) &&& BitVec.ofInt 64 4294967295).toNat : Int)) + (IntKind.wrap .u64 ((IntKind.wrap .u64 ((BitVec.ofInt 64 a0 &&& BitVec.ofInt 64 4294967295).toNat : Int)) * (Int.fdiv a1 (2 ^ 32)))))) (2 ^ 32)))), (IntKind.wrap .u64 (a0 * a1))))
set_option maxRecDepth 100000 in
theorem math_bits_Mul64_ok {a0 : Int} {a1 : Int} {r_ : (Int × Int)} (h : math_bits_Mul64 a0 a1 = some r_) : R_math_bits_Mul64 a0 a1 r_ := by
  unfold math_bits_Mul64 at h
  refine fn_pureX (fn := Try.f53) (by kernel_rfl) (c := subC (bodyC Try.prog 53) []) (by kernel_rfl) (by kernel_rfl) (Nat.le_of_ble_eq_true (by kernel_rfl)) ?_
  generalize hQ' : retQ Try.prog Try.f53 (.tup [aI .u64 r_.1, aI .u64 r_.2]) = Q'
  have kr : ∀ (ns : List (Nat × Nat × Nat)) (s : LS) (x : (Int × Int)), retX Try.prog ns [.tmp 4, .tmp 5] s = some (.tup [aI .u64 x.1, aI .u64 x.2]) → x = r_ → Q' .ret s.st := by subst hQ'; intro ns s x hx hq; subst hq; exact ret_ok (fn := Try.f53) ns hx
  change W Try.prog _ (LS.mk 51 [(0, aI .u64 a0), (1, aI .u64 a1)] []).st Q'
  refine W_seq ?_
  refine W_y (s' := LS.mk 51 [(0, aI .u64 a0), (1, aI .u64 a1)] []) mixed [qn0, qn0] ⟨[0, 1], [], [], [], [], [], []⟩ aN (by kernel_rfl) ?_
  refine W_seq ?_
  refine W_y (s' := LS.mk 51 [(0, aI .u64 a0), (1, aI .u64 a1), (6, aI .u64 (IntKind.wrap .u64 ((BitVec.ofInt 64 a0 &&& BitVec.ofInt 64 4294967295).toNat : Int)))] []) mixed [qn0, qn0, qn0] ⟨[0, 1, 6], [], [], [], [], [], []⟩ aN (by kernel_rfl) ?_
  refine W_seq ?_
  refine W_y (s' := LS.mk 51 [(0, aI .u64 a0), (1, aI .u64 a1), (6, aI .u64 (IntKind.wrap .u64 ((BitVec.ofInt 64 a0 &&& BitVec.ofInt 64 4294967295).toNat : Int))), (7, aI .u64 (Int.fdiv a0 (2 ^ 32)))] []) mixed [qn0, qn0, qn0] ⟨[0, 1, 6, 7], [], [], [], [], [], []⟩ aN (by kernel_rfl) ?_
  refine W_seq ?_
  refine W_y (s' := LS.mk 51 [(0, aI .u64 a0), (1, aI .u64 a1), (6, aI .u64 (IntKind.wrap .u64 ((BitVec.ofInt 64 a0 &&& BitVec.ofInt 64 4294967295).toNat : Int))), (7, aI .u64 (Int.fdiv a0 (2 ^ 32))), (8, aI .u64 (IntKind.wrap .u64 ((BitVec.ofInt 64 a1 &&& BitVec.ofInt 64 4294967295).toNat : Int)))] []) mixed [qn0, qn0, qn0] ⟨[0, 1, 6, 7, 8], [], [], [], [], [], []⟩ aN (by kernel_rfl) ?_
  refine W_seq ?_
  refine W_y (s' := LS.mk 51 [(0, aI .u64 a0), (1, aI .u64 a1), (6, aI .u64 (IntKind.wrap .u64 ((BitVec.ofInt 64 a0 &&& BitVec.ofInt 64 4294967295).toNat : Int))), (7, aI .u64 (Int.fdiv a0 (2 ^ 32))), (8, aI .u64 (IntKind.wrap .u64 ((BitVec.ofInt 64 a1 &&& BitVec.ofInt 64 4294967295).toNat : Int))), (9, aI .u64 (Int.fdiv a1 (2 ^ 32)))] []) mixed [qn0, qn0, qn0] ⟨[0, 1, 6, 7, 8, 9], [], [], [], [], [], []⟩ aN (by kernel_rfl) ?_
  refine W_seq ?_
  refine W_y (s' := LS.mk 51 [(0, aI .u64 a0), (1, aI .u64 a1), (6, aI .u64 (IntKind.wrap .u64 ((BitVec.ofInt 64 a0 &&& BitVec.ofInt 64 4294967295).toNat : Int))), (7, aI .u64 (Int.fdiv a0 (2 ^ 32))), (8, aI .u64 (IntKind.wrap .u64 ((BitVec.ofInt 64 a1 &&& BitVec.ofInt 64 4294967295).toNat : Int))), (9, aI .u64 (Int.fdiv a1 (2 ^ 32))), (10, aI .u64 (IntKind.wrap .u64 ((IntKind.wrap .u64 ((BitVec.ofInt 64 a0 &&& BitVec.ofInt 64 4294967295).toNat : Int)) * (IntKind.wrap .u64 ((BitVec.ofInt 64 a1 &&& BitVec.ofInt 64 4294967295).toNat : Int)))))] []) mixed [qn0, qn0, qn0, qn0] ⟨[0, 1, 6, 7, 8, 9, 10], [], [], [], [], [], []⟩ aN (by kernel_rfl) ?_
  refine W_seq ?_
  refine W_y (s' := LS.mk 51 [(0, aI .u64 a0), (1, aI .u64 a1), (6, aI .u64 (IntKind.wrap .u64 ((BitVec.ofInt 64 a0 &&& BitVec.ofInt 64 4294967295).toNat : Int))), (7, aI .u64 (Int.fdiv a0 (2 ^ 32))), (9, aI .u64 (Int.fdiv a1 (2 ^ 32))), (11, aI .u64 (IntKind.wrap .u64 ((IntKind.wrap .u64 ((Int.fdiv a0 (2 ^ 32)) * (IntKind.wrap .u64 ((BitVec.ofInt 64 a1 &&& BitVec.ofInt 64 4294967295).toNat : Int)))) + (Int.fdiv (IntKind.wrap .u64 ((IntKind.wrap .u64 ((BitVec.ofInt 64 a0 &&& BitVec.ofInt 64 4294967295).toNat : Int)) * (IntKind.wrap .u64 ((BitVec.ofInt 64 a1 &&& BitVec.ofInt 64 4294967295).toNat : Int)))) (2 ^ 32)))))] []) mixed [qn0, qn0, qn0, qn0, qn0, qn0, qn0] ⟨[0, 1, 6, 7, 9, 11], [], [], [], [], [], []⟩ aN (by kernel_rfl) ?_
  refine W_seq ?_
  refine W_y (s' := LS.mk 51 [(0, aI .u64 a0), (1, aI .u64 a1), (6, aI .u64 (IntKind.wrap .u64 ((BitVec.ofInt 64 a0 &&& BitVec.ofInt 64 4294967295).toNat : Int))), (7, aI .u64 (Int.fdiv a0 (2 ^ 32))), (9, aI .u64 (Int.fdiv a1 (2 ^ 32))), (11, aI .u64 (IntKind.wrap .u64 ((IntKind.wrap .u64 ((Int.fdiv a0 (2 ^ 32)) * (IntKind.wrap .u64 ((BitVec.ofInt 64 a1 &&& BitVec.ofInt 64 4294967295).toNat : Int)))) + (Int.fdiv (IntKind.wrap .u64 ((IntKind.wrap .u64 ((BitVec.ofInt 64 a0 &&& BitVec.ofInt 64 4294967295).toNat : Int)) * (IntKind.wrap .u64 ((BitVec.ofInt 64 a1 &&& BitVec.ofInt 64 4294967295).toNat : Int)))) (2 ^ 32))))), (12, aI .u64 (IntKind.wrap .u64 ((BitVec.ofInt 64 (IntKind.wrap .u64 ((IntKind.wrap .u64 ((Int.fdiv a0 (2 ^ 32)) * (IntKind.wrap .u64 ((BitVec.ofInt 64 a1 &&& BitVec.ofInt 64 4294967295).toNat : Int)))) + (Int.fdiv (IntKind.wrap .u64 ((IntKind.wrap .u64 ((BitVec.ofInt 64 a0 &&& BitVec.ofInt 64 4294967295).toNat : Int)) * (IntKind.wrap .u64 ((BitVec.ofInt 64 a1 &&& BitVec.ofInt 64 4294967295).toNat : Int)))) (2 ^ 32)))) &&& BitVec.ofInt 64 4294967295).toNat : Int)))] []) mixed [qn0, qn0, qn0] ⟨[0, 1, 6, 7, 9, 11, 12], [], [], [], [], [], []⟩ aN (by kernel_rfl) ?_
  refine W_seq ?_
  refine W_y (s' := LS.mk 51 [(0, aI .u64 a0), (1, aI .u64 a1), (6, aI .u64 (IntKind.wrap .u64 ((BitVec.ofInt 64 a0 &&& BitVec.ofInt 64 4294967295).toNat : Int))), (7, aI .u64 (Int.fdiv a0 (2 ^ 32))), (9, aI .u64 (Int.fdiv a1 (2 ^ 32))), (12, aI .u64 (IntKind.wrap .u64 ((BitVec.ofInt 64 (IntKind.wrap .u64 ((IntKind.wrap .u64 ((Int.fdiv a0 (2 ^ 32)) * (IntKind.wrap .u64 ((BitVec.ofInt 64 a1 &&& BitVec.ofInt 64 4294967295).toNat : Int)))) + (Int.fdiv (IntKind.wrap .u64 ((IntKind.wrap .u64 ((BitVec.ofInt 64 a0 &&& BitVec.ofInt 64 4294967295).toNat : Int)) * (IntKind.wrap .u64 ((BitVec.ofInt 64 a1 &&& BitVec.ofInt 64 4294967295).toNat : Int)))) (2 ^ 32)))) &&& BitVec.ofInt 64 4294967295).toNat : Int))), (13, aI .u64 (Int.fdiv (IntKind.wrap .u64 ((IntKind.wrap .u64 ((Int.fdiv a0 (2 ^ 32)) * (IntKind.wrap .u64 ((BitVec.ofInt 64 a1 &&& BitVec.ofInt 64 4294967295).toNat : Int)))) + (Int.fdiv (IntKind.wrap .u64 ((IntKind.wrap .u64 ((BitVec.ofInt 64 a0 &&& BitVec.ofInt 64 4294967295).toNat : Int)) * (IntKind.wrap .u64 ((BitVec.ofInt 64 a1 &&& BitVec.ofInt 64 4294967295).toNat : Int)))) (2 ^ 32)))) (2 ^ 32)))] []) mixed [qn0, qn0, qn0] ⟨[0, 1, 6, 7, 9, 12, 13], [], [], [], [], [], []⟩ aN (by kernel_rfl) ?_
  refine W_seq ?_
  refine W_y (s' := LS.mk 51 [(0, aI .u64 a0), (1, aI .u64 a1), (7, aI .u64 (Int.fdiv a0 (2 ^ 32))), (9, aI .u64 (Int.fdiv a1 (2 ^ 32))), (12, aI .u64 (IntKind.wrap .u64 ((IntKind.wrap .u64 ((BitVec.ofInt 64 (IntKind.wrap .u64 ((IntKind.wrap .u64 ((Int.fdiv a0 (2 ^ 32)) * (IntKind.wrap .u64 ((BitVec.ofInt 64 a1 &&& BitVec.ofInt 64 4294967295).toNat : Int)))) + (Int.fdiv (IntKind.wrap .u64 ((IntKind.wrap .u64 ((BitVec.ofInt 64 a0 &&& BitVec.ofInt 64 4294967295).toNat : Int)) * (IntKind.wrap .u64 ((BitVec.ofInt 64 a1 &&& BitVec.ofInt 64 4294967295).toNat : Int)))) (2 ^ 32)))) &&& BitVec.ofInt 64 4294967295).toNat : Int)) + (IntKind.wrap .u64 ((IntKind.wrap .u64 ((BitVec.ofInt 64 a0 &&& BitVec.ofInt 64 4294967295).toNat : Int)) * (Int.fdiv a1 (2 ^ 32))))))), (13, aI .u64 (Int.fdiv (IntKind.wrap .u64 ((IntKind.wrap .u64 ((Int.fdiv a0 (2 ^ 32)) * (IntKind.wrap .u64 ((BitVec.ofInt 64 a1 &&& BitVec.ofInt 64 4294967295).toNat : Int)))) + (Int.fdiv (IntKind.wrap .u64 ((IntKind.wrap .u64 ((BitVec.ofInt 64 a0 &&& BitVec.ofInt 64 4294967295).toNat : Int)) * (IntKind.wrap .u64 ((BitVec.ofInt 64 a1 &&& BitVec.ofInt 64 4294967295).toNat : Int)))) (2 ^ 32)))) (2 ^ 32)))] []) mixed [qn0, qn0, qn0, qn0, qn0, qn0] ⟨[0, 1, 7, 9, 12, 13], [], [], [], [], [], []⟩ aN (by kernel_rfl) ?_
  refine W_seq ?_
  refine W_y (s' := LS.mk 51 [(0, aI .u64 a0), (1, aI .u64 a1), (4, aI .u64 (IntKind.wrap .u64 ((IntKind.wrap .u64 ((IntKind.wrap .u64 ((Int.fdiv a0 (2 ^ 32)) * (Int.fdiv a1 (2 ^ 32)))) + (Int.fdiv (IntKind.wrap .u64 ((IntKind.wrap .u64 ((Int.fdiv a0 (2 ^ 32)) * (IntKind.wrap .u64 ((BitVec.ofInt 64 a1 &&& BitVec.ofInt 64 4294967295).toNat : Int)))) + (Int.fdiv (IntKind.wrap .u64 ((IntKind.wrap .u64 ((BitVec.ofInt 64 a0 &&& BitVec.ofInt 64 4294967295).toNat : Int)) * (IntKind.wrap .u64 ((BitVec.ofInt 64 a1 &&& BitVec.ofInt 64 4294967295).toNat : Int)))) (2 ^ 32)))) (2 ^ 32)))) + (Int.fdiv (IntKind.wrap .u64 ((IntKind.wrap .u64 ((BitVec.ofInt 64 (IntKind.wrap .u64 ((IntKind.wrap .u64 ((Int.fdiv a0 (2 ^ 32)) * (IntKind.wrap .u64 ((BitVec.ofInt 64 a1 &&& BitVec.ofInt 64 4294967295).toNat : Int)))) + (Int.fdiv (IntKind.wrap .u64 ((IntKind.wrap .u64 ((BitVec.ofInt 64 a0 &&& BitVec.ofInt 64 4294967295).toNat : Int)) * (IntKind.wrap .u64 ((BitVec.ofInt 64 a1 &&& BitVec.ofInt 64 4294967295).toNat : Int)))) (2 ^ 32)))) &&& BitVec.ofInt 64 4294967295).toNat : Int)) + (IntKind.wrap .u64 ((IntKind.wrap .u64 ((BitVec.ofInt 64 a0 &&& BitVec.ofInt 64 4294967295).toNat : Int)) * (Int.fdiv a1 (2 ^ 32)))))) (2 ^ 32)))))] []) mixed [qn0, qn0, qn0, qn0, qn0, qn0, qn0, qn0, qn0] ⟨[0, 1, 4], [], [], [], [], [], []⟩ aN (by kernel_rfl) ?_
  refine W_seq ?_
  refine W_y (s' := LS.mk 51 [(4, aI .u64 (IntKind.wrap .u64 ((IntKind.wrap .u64 ((IntKind.wrap .u64 ((Int.fdiv a0 (2 ^ 32)) * (Int.fdiv a1 (2 ^ 32)))) + (Int.fdiv (IntKind.wrap .u64 ((IntKind.wrap .u64 ((Int.fdiv a0 (2 ^ 32)) * (IntKind.wrap .u64 ((BitVec.ofInt 64 a1 &&& BitVec.ofInt 64 4294967295).toNat : Int)))) + (Int.fdiv (IntKind.wrap .u64 ((IntKind.wrap .u64 ((BitVec.ofInt 64 a0 &&& BitVec.ofInt 64 4294967295).toNat : Int)) * (IntKind.wrap .u64 ((BitVec.ofInt 64 a1 &&& BitVec.ofInt 64 4294967295).toNat : Int)))) (2 ^ 32)))) (2 ^ 32)))) + (Int.fdiv (IntKind.wrap .u64 ((IntKind.wrap .u64 ((BitVec.ofInt 64 (IntKind.wrap .u64 ((IntKind.wrap .u64 ((Int.fdiv a0 (2 ^ 32)) * (IntKind.wrap .u64 ((BitVec.ofInt 64 a1 &&& BitVec.ofInt 64 4294967295).toNat : Int)))) + (Int.fdiv (IntKind.wrap .u64 ((IntKind.wrap .u64 ((BitVec.ofInt 64 a0 &&& BitVec.ofInt 64 4294967295).toNat : Int)) * (IntKind.wrap .u64 ((BitVec.ofInt 64 a1 &&& BitVec.ofInt 64 4294967295).toNat : Int)))) (2 ^ 32)))) &&& BitVec.ofInt 64 4294967295).toNat : Int)) + (IntKind.wrap .u64 ((IntKind.wrap .u64 ((BitVec.ofInt 64 a0 &&& BitVec.ofInt 64 4294967295).toNat : Int)) * (Int.fdiv a1 (2 ^ 32)))))) (2 ^ 32))))), (5, aI .u64 (IntKind.wrap .u64 (a0 * a1)))] []) mixed [qn0, qn0, qn0, qn0] ⟨[4, 5], [], [], [], [], [], []⟩ aN (by kernel_rfl) ?_
  refine W_ret ?_
  exact kr [] _ _ (by kernel_rfl) (Option.some.inj h)
def R_math_bits_Mul (a0 : Int) (a1 : Int) (r : (Int × Int)) : Prop := FnP Try.prog 51 [aI .u64 a0, aI .u64 a1] (.tup [aI .u64 r.1, aI .u64 r.2])
noncomputable def math_bits_Mul (a0 : Int) (a1 : Int) : Option (Int × Int) :=
  ((math_bits_Mul64 a0 a1).bind fun (r3_2 : (Int × Int)) => (some (r3_2.1, r3_2.2)))
set_option maxRecDepth 100000 in
theorem math_bits_Mul_ok {a0 : Int} {a1 : Int} {r_ : (Int × Int)} (h : math_bits_Mul a0 a1 = some r_) : R_math_bits_Mul a0 a1 r_ := by
  unfold math_bits_Mul at h
  refine fn_pureX (fn := Try.f51) (by kernel_rfl) (c := subC (bodyC Try.prog 51) []) (by kernel_rfl) (by kernel_rfl) (Nat.le_of_ble_eq_true (by kernel_rfl)) ?_
  generalize hQ' : retQ Try.prog Try.f51 (.tup [aI .u64 r_.1, aI .u64 r_.2]) = Q'
  have kr : ∀ (ns : List (Nat × Nat × Nat)) (s : LS) (x : (Int × Int)), retX Try.prog ns [.tmp 4, .tmp 5] s = some (.tup [aI .u64 x.1, aI .u64 x.2]) → x = r_ → Q' .ret s.st := by subst hQ'; intro ns s x hx hq; subst hq; exact ret_ok (fn := Try.f51) ns hx
  change W Try.prog _ (LS.mk 30 [(0, aI .u64 a0), (1, aI .u64 a1)] []).st Q'
  refine W_seq ?_
  refine W_y (s' := LS.mk 30 [(0, aI .u64 a0), (1, aI .u64 a1)] []) mixed [qn0, qn0] ⟨[0, 1], [], [], [], [], [], []⟩ aN (by kernel_rfl) ?_
  refine W_seq ?_
  refine W_cond false (by kernel_rfl) (fun hb => nomatch ((rfl : false = false).symm.trans hb)) (fun _ => ?_)
  refine W_skip ?_
  refine W_seq ?_
  obtain ⟨r3_2, hr3_2, h⟩ := bind_ok h
  have hr3_2 := math_bits_Mul64_ok hr3_2
  refine W_y (s' := LS.mk 30 [(8, aI .u64 r3_2.1), (9, aI .u64 r3_2.2)] []) mixed [qn0, qn0, qn (.call [] (.tup [aI .u64 r3_2.1, aI .u64 r3_2.2])), qn0, qn0, qn0, qn0, qn0] ⟨[8, 9], [], [], [], [], [], []⟩ (aC hr3_2 aN) (by kernel_rfl) ?_
  refine W_seq ?_
  refine W_y (s' := LS.mk 30 [(4, aI .u64 r3_2.1), (5, aI .u64 r3_2.2)] []) mixed [qn0, qn0, qn0, qn0] ⟨[4, 5], [], [], [], [], [], []⟩ aN (by kernel_rfl) ?_
  refine W_ret ?_
  exact kr [] _ _ (by kernel_rfl) (Option.some.inj h)
end Go.Proofs.Ytblikpgdepjhdaa
