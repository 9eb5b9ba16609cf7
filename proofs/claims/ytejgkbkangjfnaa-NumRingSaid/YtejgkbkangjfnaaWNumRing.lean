/- The walk of NumRing. -/
import Derived.Test.YtejgkbkangjfnaaNumOps
namespace Go.Proofs.Ytejgkbkangjfnaa
open Go.RowKit
set_option linter.unusedVariables false

theorem wmul_l (x y : Int) : wrap64 (wrap64 x * y) = wrap64 (x * y) := by
  rw [← wrap64_mod (wrap64 x * y), ← wrap64_mod (x * y)]; congr 1
  rw [Int.mul_emod, Int.mul_emod x y]
  have : wrap64 x % 18446744073709551616 = x % 18446744073709551616 := by unfold wrap64; omega
  rw [this]
theorem wmul_r (x y : Int) : wrap64 (x * wrap64 y) = wrap64 (x * y) := by rw [Int.mul_comm, wmul_l, Int.mul_comm]
theorem wadd_l (x y : Int) : wrap64 (wrap64 x + y) = wrap64 (x + y) := by unfold wrap64; omega
theorem wadd_r (x y : Int) : wrap64 (x + wrap64 y) = wrap64 (x + y) := by unfold wrap64; omega
set_option maxHeartbeats 1000000 in
theorem numRing_walk (a : Int) (wa : (Lit.int .i64 a).wf = true) (b : Int) (wb : (Lit.int .i64 b).wf = true) (c : Int) (wc : (Lit.int .i64 c).wf = true) (w : World) :
    Calls Try.prog 8 #[.int .i64 a, .int .i64 b, .int .i64 c] w fun e w' => e = .returned (.bool true) ∧ Below w.heap.size w w' := by
  obtain ⟨s, e1⟩ : ∃ s, wrap64 (a + b) = s := ⟨_, rfl⟩
  have e1' : wrap64 (b + a) = s := by rw [Int.add_comm]; exact e1
  obtain ⟨p, e2⟩ : ∃ p, wrap64 (a * b) = p := ⟨_, rfl⟩
  have e2' : wrap64 (b * a) = p := by rw [Int.mul_comm]; exact e2
  obtain ⟨t, e3⟩ : ∃ t, wrap64 (b + c) = t := ⟨_, rfl⟩
  obtain ⟨q, e4⟩ : ∃ q, wrap64 (b * c) = q := ⟨_, rfl⟩
  obtain ⟨r, e5⟩ : ∃ r, wrap64 (a * c) = r := ⟨_, rfl⟩
  obtain ⟨y, e6⟩ : ∃ y, wrap64 (-b) = y := ⟨_, rfl⟩
  obtain ⟨u, e7⟩ : ∃ u, wrap64 (s + c) = u := ⟨_, rfl⟩
  have e7' : wrap64 (a + t) = u := by rw [← e7, ← e1, ← e3, wadd_l, wadd_r, Int.add_assoc]
  obtain ⟨v, e8⟩ : ∃ v, wrap64 (p * c) = v := ⟨_, rfl⟩
  have e8' : wrap64 (a * q) = v := by rw [← e8, ← e2, ← e4, wmul_l, wmul_r, Int.mul_assoc]
  obtain ⟨x, e9⟩ : ∃ x, wrap64 (a * t) = x := ⟨_, rfl⟩
  have e9' : wrap64 (p + r) = x := by rw [← e9, ← e2, ← e5, ← e3, wmul_r, wadd_l, wadd_r, Int.mul_add]
  obtain ⟨z, e10⟩ : ∃ z, wrap64 (a - b) = z := ⟨_, rfl⟩
  have e10' : wrap64 (a + y) = z := by rw [← e10, ← e6, wadd_r, Int.sub_eq_add_neg]
  go_enter Try.func8, Try.ntmps8
  go_wp2_with (first | (go_at_call 20; refine (num_Add _ _ _).mono ?_; rintro e w1 ⟨rfl, rfl⟩) | (go_at_call 12; refine (num_Mul _ _ _).mono ?_; rintro e w1 ⟨rfl, rfl⟩) | (go_at_call 25; refine (num_Sub _ _ _).mono ?_; rintro e w1 ⟨rfl, rfl⟩) | (go_at_call 27; refine (num_Neg _ _).mono ?_; rintro e w1 ⟨rfl, rfl⟩) | (go_at_call 16; refine (awake01 _).mono ?_; rintro e w1 ⟨rfl, hb⟩))
  go_ret
  exact ⟨rfl, (by repeat' (first | exact Below.refl _ _ | assumption | (refine thenB ?_ (by assumption)) | (refine belowN ?_ _) | (refine Below.alloc ?_ (by first | simp; done | (simp; omega) | omega) _) | (refine below_setRow ?_ (by first | simp; done | (simp; omega) | omega) _) | (refine Below.setCell ?_ (by first | simp; done | (simp; omega) | omega) _)))⟩
end Go.Proofs.Ytejgkbkangjfnaa
