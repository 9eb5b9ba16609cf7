/- The walk of NumSums. -/
import Derived.Test.YtejgkbkangjfnaaNumOps
namespace Go.Proofs.Ytejgkbkangjfnaa
open Go.RowKit
set_option linter.unusedVariables false
set_option maxHeartbeats 1000000 in
theorem numSums_walk (a : Int) (wa : (Lit.int .i64 a).wf = true) (b : Int) (wb : (Lit.int .i64 b).wf = true) (w : World) :
    Calls Try.prog 7 #[.int .i64 a, .int .i64 b] w fun e w' => e = .returned (.bool true) ∧ Below w.heap.size w w' := by
  have e1 : wrap64 (a - b) = wrap64 (a + -b) := by rw [Int.sub_eq_add_neg]
  go_enter Try.func7, Try.ntmps7
  go_wp2_with fail
  refine (ref01_Of _ _).mono ?_
  rintro e w1 ⟨rfl, hb1⟩
  go_wp2_with fail
  refine (ref01_Of _ _).mono ?_
  rintro e w2 ⟨rfl, hb2⟩
  unfold D8
  go_upto_region 2 with (fail)
  have z_hb1 := hb1.size; (try simp only [World.size_alloc, World.size_setCell, heap_drewN, setRow_size] at z_hb1); have z_hb2 := hb2.size; (try simp only [World.size_alloc, World.size_setCell, heap_drewN, setRow_size] at z_hb2)
  have hT : Two w2.heap.size (w2.heap.size + 1) #[.int .i64 (dig a 0), .int .i64 (dig a 1), .int .i64 (dig a 2), .int .i64 (dig a 3), .int .i64 (dig a 4), .int .i64 (dig a 5), .int .i64 (dig a 6), .int .i64 (dig a 7)] #[.int .i64 (dig b 0), .int .i64 (dig b 1), .int .i64 (dig b 2), .int .i64 (dig b 3), .int .i64 (dig b 4), .int .i64 (dig b 5), .int .i64 (dig b 6), .int .i64 (dig b 7)] w ((w2.alloc (.cells #[.int .i64 (dig a 0), .int .i64 (dig a 1), .int .i64 (dig a 2), .int .i64 (dig a 3), .int .i64 (dig a 4), .int .i64 (dig a 5), .int .i64 (dig a 6), .int .i64 (dig a 7)] 24)).alloc (.cells #[.int .i64 (dig b 0), .int .i64 (dig b 1), .int .i64 (dig b 2), .int .i64 (dig b 3), .int .i64 (dig b 4), .int .i64 (dig b 5), .int .i64 (dig b 6), .int .i64 (dig b 7)] 24)) := Two.mk2 ((row_alloc_old _ _ _ (by simp)).trans (row_alloc_new _ _ _ rfl)) (row_alloc_new _ _ _ (by simp)) (by repeat' (first | exact Below.refl _ _ | assumption | (refine thenB ?_ (by assumption)) | (refine belowN ?_ _) | (refine Below.alloc ?_ (by first | simp; done | (simp; omega) | omega) _) | (refine below_setRow ?_ (by first | simp; done | (simp; omega) | omega) _) | (refine Below.setCell ?_ (by first | simp; done | (simp; omega) | omega) _)))
  go_region_held3 (Two w2.heap.size (w2.heap.size + 1) #[.int .i64 (dig a 0), .int .i64 (dig a 1), .int .i64 (dig a 2), .int .i64 (dig a 3), .int .i64 (dig a 4), .int .i64 (dig a 5), .int .i64 (dig a 6), .int .i64 (dig a 7)] #[.int .i64 (dig b 0), .int .i64 (dig b 1), .int .i64 (dig b 2), .int .i64 (dig b 3), .int .i64 (dig b 4), .int .i64 (dig b 5), .int .i64 (dig b 6), .int .i64 (dig b 7)] w) (first | assumption | exact Two.drew (by assumption)) (first
    | (go_at_call 20; refine (num_Add _ _ _).mono ?_; rintro e w1 ⟨rfl, rfl⟩)
    | (go_at_call 25; refine (num_Sub _ _ _).mono ?_; rintro e w1 ⟨rfl, rfl⟩)
    | (go_at_call 27; refine (num_Neg _ _).mono ?_; rintro e w1 ⟨rfl, rfl⟩)
    | (go_at_call 24; refine (ref01_Plus _ _ _).mono ?_; rintro e w1 ⟨rfl, hb⟩; have hk := Two.below (by assumption) hb)
    | (go_at_call 26; refine (ref01_Minus _ _).mono ?_; rintro e w1 ⟨rfl, hb⟩; have hk := Two.below (by assumption) hb)
    | (go_at_call 15; refine (ref01_Number _ _).mono ?_; rintro e w1 ⟨rfl, hb⟩; have hk := Two.below (by assumption) hb)
    | (go_at_call 16; refine (awake01 _).mono ?_; rintro e w1 ⟨rfl, hb⟩; have hk := Two.below (by assumption) hb))
  go_wp2_with fail
  go_ret
  exact ⟨rfl, Two.out (by assumption)⟩
end Go.Proofs.Ytejgkbkangjfnaa
