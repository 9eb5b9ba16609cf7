/- Parts of the proof. -/
import Derived.Test.YtmffhifkdbfbfaaEqDivPlain
namespace Go.Proofs.Ytmffhifkdbfbfaa
open Go.RowKit
set_option maxRecDepth 100000
set_option linter.unusedVariables false
set_option maxHeartbeats 1000000 in
theorem ref01_Div (a b : Int) (wa : (Lit.int .i64 a).wf = true) (wb : (Lit.int .i64 b).wf = true) (hb : b ≠ 0) (w : World) :
    Calls Try.prog 85 #[.int .i64 a, .int .i64 b] w fun e w' => e = .returned (.tuple #[.int .i64 (wrap64 (a.tdiv b)), .int .i64 (wrap64 (a.tmod b))]) ∧ Below w.heap.size w w' := by
  go_enter Try.func85, Try.ntmps85
  go_wp2_with fail
  refine (ref01_Size a wa _).mono ?_
  rintro e w1 ⟨rfl, hb1⟩
  go_wp2_with fail
  refine (ref01_Size b wb _).mono ?_
  rintro e w2 ⟨rfl, hb2⟩
  obtain ⟨x0, x1⟩ := abs_bd wa
  obtain ⟨_, y1⟩ := abs_bd wb
  have y0 := abs_pos hb
  generalize hx : absI a = x at *
  generalize hy : absI b = y at *
  have Hx := Lib.hid hx; clear hx
  have Hy := Lib.hid hy; clear hy
  have Hs := bits_start x y x0 (by omega)
  have HS := Lib.hid Hs; clear Hs
  go_wp2_with fail
  go_loopw [8,9,10,11] (fun q r i t wr => ∃ j : Nat, j ≤ 64 ∧ i = .int .i64 ((j : Int) - 1) ∧ q = .int .u64 (qbit x y j) ∧ r = .int .u64 (rbit x y j) ∧ wr = w2) (fun _ _ i _ _ => (intOf i + 1).toNat)
  case atStart => exact ⟨64, by omega, rfl, by rw [HS.out.1], by rw [HS.out.2], rfl⟩
  case round =>
    obtain ⟨j, hj, rfl, rfl, rfl, rfl⟩ := hrel
    by_cases hlt : j = 0
    · subst hlt
      rw [(bits_end x y).1, (bits_end x y).2]
      go_wp2_with fail
      refine (ref01_Of _ _).mono ?_
      rintro e w3 ⟨rfl, hb3⟩
      rw [D8_wrap]
      go_wp2_with (refine wpList_store_new rfl _ _ _ rfl 74 _ (D8 (x / y)) rfl rfl (by kernel_rfl) rfl (D8_all _) ?_)
      refine (ref01_Of _ _).mono ?_
      rintro e w4 ⟨rfl, hb4⟩
      rw [D8_wrap]
      have hg4 : w4.heap[w3.heap.size]? = some (.cells (D8 (x / y)) 74 (0, 0)) := (hb4.block _ (by simp)).trans (row_alloc_new _ _ _ rfl)
      have hl4 := lt_of_block hg4
      have hq := quo_signs a b hb
      have hr := rem_signs a b hb
      rw [Hx.out, Hy.out] at hq
      rw [Hx.out, Hy.out] at hr
      have HQ := Lib.hid hq; clear hq
      have HR := Lib.hid hr; clear hr
      go_upto_region 15 with (refine wpList_store_new rfl _ _ _ rfl 74 _ (D8 (x % y)) rfl rfl (by kernel_rfl) rfl (D8_all _) ?_)
      have hP5 : (w4.alloc (.cells (D8 (x % y)) 74)).heap[w3.heap.size]? = some (.cells (D8 (x / y)) 74 (0, 0)) := (row_alloc_old _ _ _ hl4).trans hg4
      have hL5 : (w4.alloc (.cells (D8 (x % y)) 74)).heap[w4.heap.size]? = some (.cells (D8 (x % y)) 74 (0, 0)) := row_alloc_new _ _ _ rfl
      have z_hb1 := hb1.size; (try simp at z_hb1); have z_hb2 := hb2.size; (try simp at z_hb2); have z_hb3 := hb3.size; (try simp at z_hb3); have z_hb4 := hb4.size; (try simp at z_hb4)
      have hB5 : Below w.heap.size w (w4.alloc (.cells (D8 (x % y)) 74)) := (by repeat' (first | exact Below.refl _ _ | assumption | (refine thenB ?_ (by assumption)) | (refine belowN ?_ _) | (refine Below.alloc ?_ (by first | simp; done | (simp; omega) | omega) _) | (refine below_setRow ?_ (by first | simp; done | (simp; omega) | omega) _) | (refine Below.setCell ?_ (by first | simp; done | (simp; omega) | omega) _)))
      have hl1 : w.heap.size ≤ w3.heap.size := by omega
      have hl2 : w.heap.size ≤ w4.heap.size := by omega
      clear hg4 hb1 hb2 hb3 hb4 z_hb1 z_hb2 z_hb3 z_hb4
      generalize w4.alloc (.cells (D8 (x % y)) 74) = W5 at *
      generalize w3.heap.size = B1 at *
      generalize w4.heap.size = B2 at *
      by_cases ha : a < 0 <;> by_cases hbb : b < 0
      · have e1 : decide (a < 0) = true := by simpa using ha
        have e2 : decide (b < 0) = true := by simpa using hbb
        have HQ2 : Hid (a.tdiv b = x / y) := Lib.hid (by have h := HQ.out; rw [e1, e2] at h; simpa using h)
        have HR2 : Hid (a.tmod b = -(x % y)) := Lib.hid (by have h := HR.out; simpa [ha] using h)
        go_wp2_with (first | (refine wpList_load_row rfl _ _ rfl B2 rfl 74 (D8 (x % y)) (0, 0) _ hL5 Try.underlying74 rfl (by kernel_rfl) ?_))
        refine (ref01_Minus _ _).mono ?_
        rintro e W8 ⟨rfl, hb8⟩
        have hP8 := (hb8.block _ (lt_of_block hP5)).trans hP5
        have hL8 := (hb8.block _ (lt_of_block hL5)).trans hL5
        have hL9 := setRow_heap W8 B2 _ (D8 (-(x % y))) _ _ hL8
        have hP9 : (W8.setRow B2 (D8 (-(x % y)))).heap[B1]? = _ := (setRow_other W8 B2 B1 (D8 (-(x % y))) (by omega)).trans hP8
        have hB9 : Below w.heap.size w (W8.setRow B2 (D8 (-(x % y)))) := below_setRow (thenB hB5 hb8) hl2 _
        go_wp2_with (refine wpList_store_row rfl _ _ _ rfl B2 74 (D8 (x % y)) (D8 (-(x % y))) rfl rfl hL8 (by kernel_rfl) rfl (D8_all _) ?_)
        have hT := Two.mk2 hP9 hL9 hB9
        clear HQ HR
        go_region_held3 (Two B1 B2 #[.int .i64 (dig (x / y) 0), .int .i64 (dig (x / y) 1), .int .i64 (dig (x / y) 2), .int .i64 (dig (x / y) 3), .int .i64 (dig (x / y) 4), .int .i64 (dig (x / y) 5), .int .i64 (dig (x / y) 6), .int .i64 (dig (x / y) 7)] #[.int .i64 (dig (-(x % y)) 0), .int .i64 (dig (-(x % y)) 1), .int .i64 (dig (-(x % y)) 2), .int .i64 (dig (-(x % y)) 3), .int .i64 (dig (-(x % y)) 4), .int .i64 (dig (-(x % y)) 5), .int .i64 (dig (-(x % y)) 6), .int .i64 (dig (-(x % y)) 7)] w) (first | assumption | exact Two.drew (by assumption)) (first | (go_at_call 36; refine (ref01_Number _ _).mono ?_; rintro e w1 ⟨rfl, hb⟩; have hk := Two.below (by assumption) hb))
        go_wp2_with fail
        go_ret2
        exact ⟨by (rw [HQ2.out, HR2.out]) <;> rfl, Two.out (by assumption)⟩
      · have e1 : decide (a < 0) = true := by simpa using ha
        have e2 : decide (b < 0) = false := by simpa using hbb
        have HQ2 : Hid (a.tdiv b = -(x / y)) := Lib.hid (by have h := HQ.out; rw [e1, e2] at h; simpa using h)
        have HR2 : Hid (a.tmod b = -(x % y)) := Lib.hid (by have h := HR.out; simpa [ha] using h)
        go_wp2_with (refine wpList_load_row rfl _ _ rfl B1 rfl 74 (D8 (x / y)) (0, 0) _ hP5 Try.underlying74 rfl (by kernel_rfl) ?_)
        refine (ref01_Minus _ _).mono ?_
        rintro e W6 ⟨rfl, hb6⟩
        have hP6 := (hb6.block _ (lt_of_block hP5)).trans hP5
        have hL6 := (hb6.block _ (lt_of_block hL5)).trans hL5
        have hP7 := setRow_heap W6 B1 _ (D8 (-(x / y))) _ _ hP6
        have hL7 : (W6.setRow B1 (D8 (-(x / y)))).heap[B2]? = _ := (setRow_other W6 B1 B2 (D8 (-(x / y))) (by omega)).trans hL6
        have hB7 : Below w.heap.size w (W6.setRow B1 (D8 (-(x / y)))) := below_setRow (thenB hB5 hb6) hl1 _
        go_wp2_with (first | (refine wpList_store_row rfl _ _ _ rfl B1 74 (D8 (x / y)) (D8 (-(x / y))) rfl rfl hP6 (by kernel_rfl) rfl (D8_all _) ?_) | (refine wpList_load_row rfl _ _ rfl B2 rfl 74 (D8 (x % y)) (0, 0) _ hL7 Try.underlying74 rfl (by kernel_rfl) ?_))
        refine (ref01_Minus _ _).mono ?_
        rintro e W8 ⟨rfl, hb8⟩
        have hP8 := (hb8.block _ (lt_of_block hP7)).trans hP7
        have hL8 := (hb8.block _ (lt_of_block hL7)).trans hL7
        have hL9 := setRow_heap W8 B2 _ (D8 (-(x % y))) _ _ hL8
        have hP9 : (W8.setRow B2 (D8 (-(x % y)))).heap[B1]? = _ := (setRow_other W8 B2 B1 (D8 (-(x % y))) (by omega)).trans hP8
        have hB9 : Below w.heap.size w (W8.setRow B2 (D8 (-(x % y)))) := below_setRow (thenB hB7 hb8) hl2 _
        go_wp2_with (refine wpList_store_row rfl _ _ _ rfl B2 74 (D8 (x % y)) (D8 (-(x % y))) rfl rfl hL8 (by kernel_rfl) rfl (D8_all _) ?_)
        have hT := Two.mk2 hP9 hL9 hB9
        clear HQ HR
        go_region_held3 (Two B1 B2 #[.int .i64 (dig (-(x / y)) 0), .int .i64 (dig (-(x / y)) 1), .int .i64 (dig (-(x / y)) 2), .int .i64 (dig (-(x / y)) 3), .int .i64 (dig (-(x / y)) 4), .int .i64 (dig (-(x / y)) 5), .int .i64 (dig (-(x / y)) 6), .int .i64 (dig (-(x / y)) 7)] #[.int .i64 (dig (-(x % y)) 0), .int .i64 (dig (-(x % y)) 1), .int .i64 (dig (-(x % y)) 2), .int .i64 (dig (-(x % y)) 3), .int .i64 (dig (-(x % y)) 4), .int .i64 (dig (-(x % y)) 5), .int .i64 (dig (-(x % y)) 6), .int .i64 (dig (-(x % y)) 7)] w) (first | assumption | exact Two.drew (by assumption)) (first | (go_at_call 36; refine (ref01_Number _ _).mono ?_; rintro e w1 ⟨rfl, hb⟩; have hk := Two.below (by assumption) hb))
        go_wp2_with fail
        go_ret2
        exact ⟨by (rw [HQ2.out, HR2.out]) <;> rfl, Two.out (by assumption)⟩
      · have e1 : decide (a < 0) = false := by simpa using ha
        have e2 : decide (b < 0) = true := by simpa using hbb
        have HQ2 : Hid (a.tdiv b = -(x / y)) := Lib.hid (by have h := HQ.out; rw [e1, e2] at h; simpa using h)
        have HR2 : Hid (a.tmod b = x % y) := Lib.hid (by have h := HR.out; simpa [ha] using h)
        go_wp2_with (refine wpList_load_row rfl _ _ rfl B1 rfl 74 (D8 (x / y)) (0, 0) _ hP5 Try.underlying74 rfl (by kernel_rfl) ?_)
        refine (ref01_Minus _ _).mono ?_
        rintro e W6 ⟨rfl, hb6⟩
        have hP6 := (hb6.block _ (lt_of_block hP5)).trans hP5
        have hL6 := (hb6.block _ (lt_of_block hL5)).trans hL5
        have hP7 := setRow_heap W6 B1 _ (D8 (-(x / y))) _ _ hP6
        have hL7 : (W6.setRow B1 (D8 (-(x / y)))).heap[B2]? = _ := (setRow_other W6 B1 B2 (D8 (-(x / y))) (by omega)).trans hL6
        have hB7 : Below w.heap.size w (W6.setRow B1 (D8 (-(x / y)))) := below_setRow (thenB hB5 hb6) hl1 _
        go_wp2_with (refine wpList_store_row rfl _ _ _ rfl B1 74 (D8 (x / y)) (D8 (-(x / y))) rfl rfl hP6 (by kernel_rfl) rfl (D8_all _) ?_)
        have hT := Two.mk2 hP7 hL7 hB7
        clear HQ HR
        go_region_held3 (Two B1 B2 #[.int .i64 (dig (-(x / y)) 0), .int .i64 (dig (-(x / y)) 1), .int .i64 (dig (-(x / y)) 2), .int .i64 (dig (-(x / y)) 3), .int .i64 (dig (-(x / y)) 4), .int .i64 (dig (-(x / y)) 5), .int .i64 (dig (-(x / y)) 6), .int .i64 (dig (-(x / y)) 7)] #[.int .i64 (dig (x % y) 0), .int .i64 (dig (x % y) 1), .int .i64 (dig (x % y) 2), .int .i64 (dig (x % y) 3), .int .i64 (dig (x % y) 4), .int .i64 (dig (x % y) 5), .int .i64 (dig (x % y) 6), .int .i64 (dig (x % y) 7)] w) (first | assumption | exact Two.drew (by assumption)) (first | (go_at_call 36; refine (ref01_Number _ _).mono ?_; rintro e w1 ⟨rfl, hb⟩; have hk := Two.below (by assumption) hb))
        go_wp2_with fail
        go_ret2
        exact ⟨by (rw [HQ2.out, HR2.out]) <;> rfl, Two.out (by assumption)⟩
      · have e1 : decide (a < 0) = false := by simpa using ha
        have e2 : decide (b < 0) = false := by simpa using hbb
        have HQ2 : Hid (a.tdiv b = x / y) := Lib.hid (by have h := HQ.out; rw [e1, e2] at h; simpa using h)
        have HR2 : Hid (a.tmod b = x % y) := Lib.hid (by have h := HR.out; simpa [ha] using h)
        go_wp2_with fail
        have hT := Two.mk2 hP5 hL5 hB5
        clear HQ HR
        go_region_held3 (Two B1 B2 #[.int .i64 (dig (x / y) 0), .int .i64 (dig (x / y) 1), .int .i64 (dig (x / y) 2), .int .i64 (dig (x / y) 3), .int .i64 (dig (x / y) 4), .int .i64 (dig (x / y) 5), .int .i64 (dig (x / y) 6), .int .i64 (dig (x / y) 7)] #[.int .i64 (dig (x % y) 0), .int .i64 (dig (x % y) 1), .int .i64 (dig (x % y) 2), .int .i64 (dig (x % y) 3), .int .i64 (dig (x % y) 4), .int .i64 (dig (x % y) 5), .int .i64 (dig (x % y) 6), .int .i64 (dig (x % y) 7)] w) (first | assumption | exact Two.drew (by assumption)) (first | (go_at_call 36; refine (ref01_Number _ _).mono ?_; rintro e w1 ⟨rfl, hb⟩; have hk := Two.below (by assumption) hb))
        go_wp2_with fail
        go_ret2
        exact ⟨by (rw [HQ2.out, HR2.out]) <;> rfl, Two.out (by assumption)⟩
    · obtain ⟨k, rfl⟩ : ∃ k, j = k + 1 := ⟨j - 1, by omega⟩
      have hk : k < 64 := by omega
      have p0 := two_pos k
      have p1 := two_le k hk
      have r0 := rbit_lo x y y0 (k + 1)
      have r1 := rbit_hi x y y0 (k + 1)
      have q0 := qbit_lo x y x0 y0 (k + 1)
      have d0 : 0 ≤ x / 2 ^ k := Int.ediv_nonneg x0 (Int.le_of_lt p0)
      have d1 : x / 2 ^ k ≤ x := Int.ediv_le_self _ x0
      have i1 : ((k : Int) + 1 - 1) = k := by omega
      have hm : min k 64 = k := by omega
      have i2 : (0 : Int) ≤ k := by omega
      by_cases hge : y ≤ rbit x y (k + 1) * 2 + x / 2 ^ k % 2
      · obtain ⟨e1, e2⟩ := step_hi x y y0 k hge
        have q1 := qbit_hi x y x0 y0 k
        rw [e2] at q1
        have E1 := Lib.hid e1; clear e1
        have E2 := Lib.hid e2; clear e2
        go_wp2_with fail
        go_roundw
        case rel => exact ⟨k, by omega, by rfl, by rw [E2.out], by rw [E1.out], trivial⟩
        case measure => simp [intOf] <;> omega
      · obtain ⟨e1, e2⟩ := step_lo x y x0 y0 k (by omega)
        have E1 := Lib.hid e1; clear e1
        have E2 := Lib.hid e2; clear e2
        go_wp2_with fail
        go_roundw
        case rel => exact ⟨k, by omega, by rfl, by rw [E2.out], by rw [E1.out], trivial⟩
        case measure => simp [intOf] <;> omega
end Go.Proofs.Ytmffhifkdbfbfaa
