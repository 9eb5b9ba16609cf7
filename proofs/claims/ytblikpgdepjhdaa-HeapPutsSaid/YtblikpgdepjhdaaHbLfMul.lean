/- Parts of the proof. -/
import Derived.Test.YtblikpgdepjhdaaHbXF
namespace Go.Proofs.Ytblikpgdepjhdaa
open Go.RowKit
set_option linter.unusedVariables false
set_option maxRecDepth 100000
set_option maxHeartbeats 4000000
def R_math_bits_Mul64 (a0 : Int) (a1 : Int) (r : (Int × Int)) : Prop := FnP Try.prog 53 [aI .u64 a0, aI .u64 a1] (.tup [aI .u64 r.1, aI .u64 r.2])
abbrev math_bits_Mul64_e (x : (Int × Int)) : A := (.tup [aI .u64 x.1, aI .u64 x.2])
noncomputable def math_bits_Mul64 (a0 : Int) (a1 : Int) : Option (Int × Int) :=
  (some ((IntKind.wrap .u64 ((IntKind.wrap .u64 ((IntKind.wrap .u64 ((Int.fdiv a0 (2 ^ 32)) * (Int.fdiv a1 (2 ^ 32)))) + (Int.fdiv (IntKind.wrap .u64 ((IntKind.wrap .u64 ((Int.fdiv a0 (2 ^ 32)) * (IntKind.wrap .u64 ((BitVec.ofInt 64 a1 &&& BitVec.ofInt 64 4294967295).toNat : Int)))) + (Int.fdiv (IntKind.wrap .u64 ((IntKind.wrap .u64 ((BitVec.ofInt 64 a0 &&& BitVec.ofInt 64 4294967295).toNat : Int)) * (IntKind.wrap .u64 ((BitVec.ofInt 64 a1 &&& BitVec.ofInt 64 4294967295).toNat : Int)))) (2 ^ 32)))) (2 ^ 32)))) + (Int.fdiv (IntKind.wrap .u64 ((IntKind.wrap .u64 ((BitVec.ofInt 64 (IntKind.wrap .u64 ((IntKind.wrap .u64 ((Int.fdiv a0 (2 ^ 32)) * (IntKind.wrap .u64 ((BitVec.ofInt 64 a1 &&& BitVec.ofInt 64 4294967295).toNat : Int)))) + (Int.fdiv (IntKind.wrap .u64 ((IntKind.wrap .u64 ((BitVec.ofInt 64 a0 &&& BitVec.ofInt 64 4294967295).toNat : Int)) * (IntKind.wrap .u64 ((BitVec.ofInt 64 a1 &&& BitVec.ofInt 64 4294967295).toNat : Int)))) (2 ^ 32)))) &&& BitVec.ofInt 64 4294967295).toNat : Int)) + (IntKind.wrap .u64 ((IntKind.wrap .u64 ((BitVec.ofInt 64 a0 &&& BitVec.ofInt 64 4294967295).toNat : Int)) * (Int.fdiv a1 (2 ^ 32)))))) (2 ^ 32)))), (IntKind.wrap .u64 (a0 * a1))))
theorem math_bits_Mul64_ok {a0 : Int} {a1 : Int} {r_ : (Int × Int)} (h : math_bits_Mul64 a0 a1 = some r_) : R_math_bits_Mul64 a0 a1 r_ := by
 unfold math_bits_Mul64 at h
 refine fn_pureZ (enc := math_bits_Mul64_e) (by kernel_rfl) fun Q' kr kn => ?_
 refine Wd [] [] [] [] [q_, q_] aN ?_
 refine Wd [(6, aI .u64 (IntKind.wrap .u64 ((BitVec.ofInt 64 a0 &&& BitVec.ofInt 64 4294967295).toNat : Int)))] [] [] [] [q_, q_, q_] aN ?_
 refine Wd [(7, aI .u64 (Int.fdiv a0 (2 ^ 32)))] [] [] [] [q_, q_, q_] aN ?_
 refine Wd [(8, aI .u64 (IntKind.wrap .u64 ((BitVec.ofInt 64 a1 &&& BitVec.ofInt 64 4294967295).toNat : Int)))] [] [] [] [q_, q_, q_] aN ?_
 refine Wd [(9, aI .u64 (Int.fdiv a1 (2 ^ 32)))] [] [] [] [q_, q_, q_] aN ?_
 refine Wd [(10, aI .u64 (IntKind.wrap .u64 ((IntKind.wrap .u64 ((BitVec.ofInt 64 a0 &&& BitVec.ofInt 64 4294967295).toNat : Int)) * (IntKind.wrap .u64 ((BitVec.ofInt 64 a1 &&& BitVec.ofInt 64 4294967295).toNat : Int)))))] [] [] [] (qz 4 []) aN ?_
 refine Wd [(11, aI .u64 (IntKind.wrap .u64 ((IntKind.wrap .u64 ((Int.fdiv a0 (2 ^ 32)) * (IntKind.wrap .u64 ((BitVec.ofInt 64 a1 &&& BitVec.ofInt 64 4294967295).toNat : Int)))) + (Int.fdiv (IntKind.wrap .u64 ((IntKind.wrap .u64 ((BitVec.ofInt 64 a0 &&& BitVec.ofInt 64 4294967295).toNat : Int)) * (IntKind.wrap .u64 ((BitVec.ofInt 64 a1 &&& BitVec.ofInt 64 4294967295).toNat : Int)))) (2 ^ 32)))))] [8, 10] [] [] (qz 7 []) aN ?_
 refine Wd [(12, aI .u64 (IntKind.wrap .u64 ((BitVec.ofInt 64 (IntKind.wrap .u64 ((IntKind.wrap .u64 ((Int.fdiv a0 (2 ^ 32)) * (IntKind.wrap .u64 ((BitVec.ofInt 64 a1 &&& BitVec.ofInt 64 4294967295).toNat : Int)))) + (Int.fdiv (IntKind.wrap .u64 ((IntKind.wrap .u64 ((BitVec.ofInt 64 a0 &&& BitVec.ofInt 64 4294967295).toNat : Int)) * (IntKind.wrap .u64 ((BitVec.ofInt 64 a1 &&& BitVec.ofInt 64 4294967295).toNat : Int)))) (2 ^ 32)))) &&& BitVec.ofInt 64 4294967295).toNat : Int)))] [] [] [] [q_, q_, q_] aN ?_
 refine Wd [(13, aI .u64 (Int.fdiv (IntKind.wrap .u64 ((IntKind.wrap .u64 ((Int.fdiv a0 (2 ^ 32)) * (IntKind.wrap .u64 ((BitVec.ofInt 64 a1 &&& BitVec.ofInt 64 4294967295).toNat : Int)))) + (Int.fdiv (IntKind.wrap .u64 ((IntKind.wrap .u64 ((BitVec.ofInt 64 a0 &&& BitVec.ofInt 64 4294967295).toNat : Int)) * (IntKind.wrap .u64 ((BitVec.ofInt 64 a1 &&& BitVec.ofInt 64 4294967295).toNat : Int)))) (2 ^ 32)))) (2 ^ 32)))] [11] [] [] [q_, q_, q_] aN ?_
 refine Wd [(12, aI .u64 (IntKind.wrap .u64 ((IntKind.wrap .u64 ((BitVec.ofInt 64 (IntKind.wrap .u64 ((IntKind.wrap .u64 ((Int.fdiv a0 (2 ^ 32)) * (IntKind.wrap .u64 ((BitVec.ofInt 64 a1 &&& BitVec.ofInt 64 4294967295).toNat : Int)))) + (Int.fdiv (IntKind.wrap .u64 ((IntKind.wrap .u64 ((BitVec.ofInt 64 a0 &&& BitVec.ofInt 64 4294967295).toNat : Int)) * (IntKind.wrap .u64 ((BitVec.ofInt 64 a1 &&& BitVec.ofInt 64 4294967295).toNat : Int)))) (2 ^ 32)))) &&& BitVec.ofInt 64 4294967295).toNat : Int)) + (IntKind.wrap .u64 ((IntKind.wrap .u64 ((BitVec.ofInt 64 a0 &&& BitVec.ofInt 64 4294967295).toNat : Int)) * (Int.fdiv a1 (2 ^ 32)))))))] [6] [] [] (qz 6 []) aN ?_
 refine Wd [(4, aI .u64 (IntKind.wrap .u64 ((IntKind.wrap .u64 ((IntKind.wrap .u64 ((Int.fdiv a0 (2 ^ 32)) * (Int.fdiv a1 (2 ^ 32)))) + (Int.fdiv (IntKind.wrap .u64 ((IntKind.wrap .u64 ((Int.fdiv a0 (2 ^ 32)) * (IntKind.wrap .u64 ((BitVec.ofInt 64 a1 &&& BitVec.ofInt 64 4294967295).toNat : Int)))) + (Int.fdiv (IntKind.wrap .u64 ((IntKind.wrap .u64 ((BitVec.ofInt 64 a0 &&& BitVec.ofInt 64 4294967295).toNat : Int)) * (IntKind.wrap .u64 ((BitVec.ofInt 64 a1 &&& BitVec.ofInt 64 4294967295).toNat : Int)))) (2 ^ 32)))) (2 ^ 32)))) + (Int.fdiv (IntKind.wrap .u64 ((IntKind.wrap .u64 ((BitVec.ofInt 64 (IntKind.wrap .u64 ((IntKind.wrap .u64 ((Int.fdiv a0 (2 ^ 32)) * (IntKind.wrap .u64 ((BitVec.ofInt 64 a1 &&& BitVec.ofInt 64 4294967295).toNat : Int)))) + (Int.fdiv (IntKind.wrap .u64 ((IntKind.wrap .u64 ((BitVec.ofInt 64 a0 &&& BitVec.ofInt 64 4294967295).toNat : Int)) * (IntKind.wrap .u64 ((BitVec.ofInt 64 a1 &&& BitVec.ofInt 64 4294967295).toNat : Int)))) (2 ^ 32)))) &&& BitVec.ofInt 64 4294967295).toNat : Int)) + (IntKind.wrap .u64 ((IntKind.wrap .u64 ((BitVec.ofInt 64 a0 &&& BitVec.ofInt 64 4294967295).toNat : Int)) * (Int.fdiv a1 (2 ^ 32)))))) (2 ^ 32)))))] [7, 9, 12, 13] [] [] (qz 9 []) aN ?_
 refine Wd [(5, aI .u64 (IntKind.wrap .u64 (a0 * a1)))] [0, 1] [] [] (qz 4 []) aN ?_
 refine W_ret ?_
 exact kre kr [] h
def R_math_bits_Mul (a0 : Int) (a1 : Int) (r : (Int × Int)) : Prop := FnP Try.prog 51 [aI .u64 a0, aI .u64 a1] (.tup [aI .u64 r.1, aI .u64 r.2])
abbrev math_bits_Mul_e (x : (Int × Int)) : A := (.tup [aI .u64 x.1, aI .u64 x.2])
noncomputable def math_bits_Mul (a0 : Int) (a1 : Int) : Option (Int × Int) :=
  ((math_bits_Mul64 a0 a1).bind fun (r3_2 : (Int × Int)) => (some (r3_2.1, r3_2.2)))
theorem math_bits_Mul_ok {a0 : Int} {a1 : Int} {r_ : (Int × Int)} (h : math_bits_Mul a0 a1 = some r_) : R_math_bits_Mul a0 a1 r_ := by
 unfold math_bits_Mul at h
 refine fn_pureZ (enc := math_bits_Mul_e) (by kernel_rfl) fun Q' kr kn => ?_
 refine Wd [] [] [] [] [q_, q_] aN ?_
 refine W_seq ?_
 refine W_cf (e := false) rfl (by kernel_rfl) ?_
 refine W_skip ?_
 obtain ⟨r3_2, hr3_2, h⟩ := bindk math_bits_Mul64_ok h
 refine Wd [(8, aI .u64 r3_2.1), (9, aI .u64 r3_2.2)] [0, 1] [] [] [q_, q_, qn (.call [] (.tup [aI .u64 r3_2.1, aI .u64 r3_2.2])), q_, q_, q_, q_, q_] (aC hr3_2 aN) ?_
 refine Wd [(4, aI .u64 r3_2.1), (5, aI .u64 r3_2.2)] [8, 9] [] [] (qz 4 []) aN ?_
 refine W_ret ?_
 exact kre kr [] h
end Go.Proofs.Ytblikpgdepjhdaa
