/- num's functions by their contracts; the statements' own examples. -/
import Derived.Test.YtejgkbkangjfnaaChecked
import Derived.Test.YtejgkbkangjfnaaDivWalk
namespace Go.Proofs.Ytejgkbkangjfnaa
open Go.RowKit
set_option linter.unusedVariables false

set_option maxHeartbeats 400000 in
theorem awake01 (w : World) : Calls Try.prog 16 #[] w fun e w' => e = .returned (.bool true) ∧ Below w.heap.size w w' := by
  have e1 : wrap64 18446744073709551616 = 0 := by simp [wrap64]
  have e2 : wrap64 14411518807585587200 / 72057594037927936 = -56 := by simp [wrap64]
  go_enter Try.func16, Try.ntmps16
  go_wp2
  go_ret
  exact ⟨rfl, (by repeat' (first | exact Below.refl _ _ | assumption | (refine thenB ?_ (by assumption)) | (refine belowN ?_ _) | (refine Below.alloc ?_ (by first | simp; done | (simp; omega) | omega) _) | (refine below_setRow ?_ (by first | simp; done | (simp; omega) | omega) _) | (refine Below.setCell ?_ (by first | simp; done | (simp; omega) | omega) _)))⟩

set_option maxHeartbeats 400000 in
theorem num_Add (a b : Int) (w : World) : Calls Try.prog 20 #[.int .i64 a, .int .i64 b] w fun e w' => e = .returned (.int .i64 (wrap64 (a + b))) ∧ w = w' := by
  go_enter Try.func20, Try.ntmps20
  go_wp2
  go_ret
  exact ⟨rfl, rfl⟩

set_option maxHeartbeats 400000 in
theorem num_Sub (a b : Int) (w : World) : Calls Try.prog 25 #[.int .i64 a, .int .i64 b] w fun e w' => e = .returned (.int .i64 (wrap64 (a - b))) ∧ w = w' := by
  go_enter Try.func25, Try.ntmps25
  go_wp2
  go_ret
  exact ⟨rfl, rfl⟩

set_option maxHeartbeats 400000 in
theorem num_Mul (a b : Int) (w : World) : Calls Try.prog 12 #[.int .i64 a, .int .i64 b] w fun e w' => e = .returned (.int .i64 (wrap64 (a * b))) ∧ w = w' := by
  go_enter Try.func12, Try.ntmps12
  go_wp2
  go_ret
  exact ⟨rfl, rfl⟩

set_option maxHeartbeats 400000 in
theorem num_Neg (a : Int) (w : World) : Calls Try.prog 27 #[.int .i64 a] w fun e w' => e = .returned (.int .i64 (wrap64 (-a))) ∧ w = w' := by
  go_enter Try.func27, Try.ntmps27
  go_wp2
  go_ret
  exact ⟨rfl, rfl⟩


/-- num.Div and num.Rem. -/
def gquo (a b : Int) : Int := if b = 0 then 0 else wrap64 (a.tdiv b)
def grem (a b : Int) : Int := if b = 0 then 0 else a.tmod b
theorem tdiv_neg_one (a : Int) : a.tdiv (-1) = -a := by rw [Int.tdiv_neg]; simp
theorem tmod_neg_one (a : Int) : a.tmod (-1) = 0 := by rw [Int.tmod_neg]; simp
set_option maxHeartbeats 400000 in
theorem num_Div (a b : Int) (wa : (Lit.int .i64 a).wf = true) (wb : (Lit.int .i64 b).wf = true) (w : World) : Calls Try.prog 17 #[.int .i64 a, .int .i64 b] w fun e w' => e = .returned (.tuple #[.int .i64 (gquo a b), .bool (b != 0)]) ∧ w = w' := by
  by_cases h0 : b = 0
  · subst h0
    go_enter Try.func17, Try.ntmps17
    go_wp2
    go_ret2
    exact ⟨rfl, rfl⟩
  by_cases h1 : b = -1
  · subst h1
    have e := tdiv_neg_one a
    have h : gquo a (-1) = wrap64 (-a) := by unfold gquo; rw [e]; rfl
    clear e
    rw [h]
    clear h
    go_enter Try.func17, Try.ntmps17
    go_wp2
    go_ret2
    exact ⟨rfl, rfl⟩
  · have g0 : (b == 0) = false := by simpa using h0
    have g1 : (b == -1) = false := by simpa using h1
    have h : gquo a b = wrap64 (a.tdiv b) := by unfold gquo; rw [if_neg h0]
    have h2 : (b != 0) = true := by simpa using h0
    rw [h, h2]
    clear h h2
    go_enter Try.func17, Try.ntmps17
    go_wp2
    go_ret2
    exact ⟨rfl, rfl⟩
set_option maxHeartbeats 400000 in
theorem num_Rem (a b : Int) (wa : (Lit.int .i64 a).wf = true) (wb : (Lit.int .i64 b).wf = true) (w : World) : Calls Try.prog 18 #[.int .i64 a, .int .i64 b] w fun e w' => e = .returned (.tuple #[.int .i64 (grem a b), .bool (b != 0)]) ∧ w = w' := by
  by_cases h0 : b = 0
  · subst h0
    go_enter Try.func18, Try.ntmps18
    go_wp2
    go_ret2
    exact ⟨rfl, rfl⟩
  by_cases h1 : b = -1
  · subst h1
    have e := tmod_neg_one a
    have h : grem a (-1) = 0 := by unfold grem; rw [e]; rfl
    clear e
    rw [h]
    clear h
    go_enter Try.func18, Try.ntmps18
    go_wp2
    go_ret2
    exact ⟨rfl, rfl⟩
  · have g0 : (b == 0) = false := by simpa using h0
    have g1 : (b == -1) = false := by simpa using h1
    have h : grem a b = a.tmod b := by unfold grem; rw [if_neg h0]
    have h2 : (b != 0) = true := by simpa using h0
    rw [h, h2]
    clear h h2
    go_enter Try.func18, Try.ntmps18
    go_wp2
    go_ret2
    exact ⟨rfl, rfl⟩

set_option maxHeartbeats 400000 in
theorem num_Compare (a b : Int) (w : World) : Calls Try.prog 32 #[.int .i64 a, .int .i64 b] w fun e w' => e = .returned (.int .i64 (if a < b then -1 else if b < a then 1 else 0)) ∧ w = w' := by
  by_cases h1 : a < b
  · rw [if_pos h1]
    go_enter Try.func32, Try.ntmps32
    go_wp2
    go_ret
    exact ⟨rfl, rfl⟩
  by_cases h2 : b < a
  · rw [if_neg h1, if_pos h2]
    go_enter Try.func32, Try.ntmps32
    go_wp2
    go_ret
    exact ⟨rfl, rfl⟩
  · rw [if_neg h1, if_neg h2]
    go_enter Try.func32, Try.ntmps32
    go_wp2
    go_ret
    exact ⟨rfl, rfl⟩
end Go.Proofs.Ytejgkbkangjfnaa
