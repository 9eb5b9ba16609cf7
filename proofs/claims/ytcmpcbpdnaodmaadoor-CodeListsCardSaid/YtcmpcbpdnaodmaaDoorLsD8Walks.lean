/- Parts of the proof. -/
import Derived.Test.YtcmpcbpdnaodmaaDoorChecked
import Derived.Test.YtcmpcbpdnaodmaaDoorLsD8Plain
import Derived.Test.YtcmpcbpdnaodmaaDoorLsBase
namespace Go.Proofs.YtcmpcbpdnaodmaaDoor
open Go.RowKit
set_option maxRecDepth 100000
set_option maxHeartbeats 400000 in
theorem ref01_Of (n : Int) (w : World) : Calls Tryd.prog 32 #[.int .i64 n] w fun e w' => e = .returned (.agg (D8 n)) ∧ Below w.heap.size w w' := by
  go_enter Tryd.func32, Tryd.ntmps32
  go_wp2_with fail
  obtain ⟨m, hm, h0, h1⟩ : ∃ m, IntKind.u64.wrap n = m ∧ 0 ≤ m ∧ m ≤ 18446744073709551615 := ⟨_, rfl, u64_lo n, u64_hi n⟩
  rw [hm]
  have Hm := Lib.hid hm; clear hm
  go_loopw [4,5] (fun u i wr => ∃ k : Nat, k ≤ 8 ∧ i = .int .i64 k ∧ u = .int .u64 (m / 256^k) ∧ wr = (w.alloc (.cells (D8 0) 73)).alloc (.cells (D8m m 0 k) 73)) (fun _ i _ => 8 - (intOf i).toNat)
  case atStart => exact ⟨0, by omega, rfl, by simp, by rw [D8m_none, D8_zero]⟩
  case round =>
    obtain ⟨k, hk, rfl, rfl, rfl⟩ := hrel
    by_cases hlt : k < 8
    · have hg := D8m_get m 0 k k hlt
      have hs := D8m_set m 0 k hlt
      unfold dig at hs
      have b0 : 0 ≤ m / 256 ^ k := Int.ediv_nonneg h0 (Int.le_of_lt (pow_pos k))
      have b1 : m / 256 ^ k ≤ 18446744073709551615 := Int.le_trans (Int.ediv_le_self _ h0) h1
      go_wp2_with fail
      go_roundw
      case rel => exact ⟨k+1, by omega, by go_num, by rw [div_step], rfl⟩
      case measure => simp [intOf]; omega
    · obtain rfl : k = 8 := by omega
      unfold D8m
      rw [D8_zero]
      go_wp2_with fail
      have hd : D8 m = D8 n := by rw [← Hm.out]; exact D8_u64 n
      rw [← hd]
      exact bodyPost_ret (v := .agg (D8 m)) (by simp [results, Tryd.results32, go_sem]; rfl) rfl ⟨rfl, (by repeat' (first | exact Below.refl _ _ | assumption | (refine thenB ?_ (by assumption)) | (refine belowN ?_ _) | (refine Below.alloc ?_ (by first | simp; done | (simp; omega) | omega) _) | (refine below_setRow ?_ (by first | simp; done | (simp; omega) | omega) _) | (refine Below.setCell ?_ (by first | simp; done | (simp; omega) | omega) _)))⟩
set_option maxHeartbeats 400000 in
theorem ref01_Plus (m n : Int) (w : World) : Calls Tryd.prog 41 #[.agg (D8 m), .agg (D8 n)] w fun e w' => e = .returned (.agg (D8 (m + n))) ∧ Below w.heap.size w w' := by
  go_enter Tryd.func41, Tryd.ntmps41
  go_wp2_with fail
  go_loopw [6,7,8] (fun c i s wr => ∃ k nd : Nat, k ≤ 8 ∧ i = .int .i64 k ∧ c = .int .i64 (carry m n k) ∧ wr = ((((w.alloc (.cells (D8 m) 73)).alloc (.cells (D8 n) 73)).alloc (.cells (D8 0) 73)).alloc (.cells (D8m (m+n) 0 k) 73)).drewN nd) (fun _ i _ _ => 8 - (intOf i).toNat)
  case atStart => exact ⟨0, 0, by omega, rfl, by rw [carry_zero], by rw [D8m_none, D8_zero]; rfl⟩
  case round =>
    obtain ⟨k, nd, hk, rfl, rfl, rfl⟩ := hrel
    by_cases hlt : k < 8
    · have hg := D8m_get (m+n) 0 k k hlt
      have hs := D8m_set (m+n) 0 k hlt
      have g1 := D8_get m k hlt
      have g2 := D8_get n k hlt
      have b1 := dig_lo m k
      have b2 := dig_hi m k
      have b3 := dig_lo n k
      have b4 := dig_hi n k
      obtain ⟨b5, b6⟩ := carry_bd m n k
      obtain ⟨c1, c2⟩ := carry_step m n k
      have i1 : (k : Int) < 8 := by omega
      have i2 : (0 : Int) ≤ k := by omega
      go_wp2_with fail
      go_quiet (fail)
      go_wp2_with fail
      go_roundw
      case rel =>
        exact ⟨k+1, _, by omega, by go_num, by rw [c2], rfl⟩
      case measure => simp [intOf]; omega
    · obtain rfl : k = 8 := by omega
      rw [D8m_full]
      unfold D8
      go_wp2_with fail
      exact bodyPost_ret (v := .agg (D8 (m+n))) (by simp [results, Tryd.results41, go_sem]; rfl) rfl ⟨rfl, (by repeat' (first | exact Below.refl _ _ | assumption | (refine thenB ?_ (by assumption)) | (refine belowN ?_ _) | (refine Below.alloc ?_ (by first | simp; done | (simp; omega) | omega) _) | (refine below_setRow ?_ (by first | simp; done | (simp; omega) | omega) _) | (refine Below.setCell ?_ (by first | simp; done | (simp; omega) | omega) _)))⟩
set_option maxHeartbeats 400000 in
theorem ref01_Number (n : Int) (w : World) : Calls Tryd.prog 35 #[.agg (D8 n)] w fun e w' => e = .returned (.int .i64 (wrap64 n)) ∧ Below w.heap.size w w' := by
  go_enter Tryd.func35, Tryd.ntmps35
  go_wp2_with fail
  go_loopw [3,4] (fun u i wr => ∃ k : Nat, k ≤ 8 ∧ i = .int .i64 ((k : Int) - 1) ∧ u = .int .u64 (upper n k) ∧ wr = w.alloc (.cells (D8 n) 73)) (fun _ i _ => (intOf i + 1).toNat)
  case atStart => exact ⟨8, by omega, rfl, by rw [upper_none], rfl⟩
  case round =>
    obtain ⟨k, hk, rfl, rfl, rfl⟩ := hrel
    by_cases hlt : k = 0
    · subst hlt
      have hf : (0 : Int) ≤ upper n 0 := upper_lo n 0
      have hg := upper_hi n 0 (by omega)
      go_wp2_with fail
      rw [wrap64_upper]
      go_ret
      exact ⟨rfl, (by repeat' (first | exact Below.refl _ _ | assumption | (refine thenB ?_ (by assumption)) | (refine belowN ?_ _) | (refine Below.alloc ?_ (by first | simp; done | (simp; omega) | omega) _) | (refine below_setRow ?_ (by first | simp; done | (simp; omega) | omega) _) | (refine Below.setCell ?_ (by first | simp; done | (simp; omega) | omega) _)))⟩
    · obtain ⟨j, rfl⟩ : ∃ j, k = j + 1 := ⟨k - 1, by omega⟩
      have hj : j < 8 := by omega
      have hg := D8_get n j hj
      have a1 := dig_lo n j
      have a2 := dig_hi n j
      have b1 := upper_lo n (j + 1)
      have b2 := upper_small n j hj
      have hs := upper_step n j hj
      have i1 : ((j : Int) + 1 - 1) = j := by omega
      go_wp2_with fail
      go_roundw
      case rel => exact ⟨j, by omega, by rfl, rfl, trivial⟩
      case measure => simp [intOf] <;> omega
set_option maxHeartbeats 400000 in
theorem ref01_Minus (n : Int) (w : World) : Calls Tryd.prog 34 #[.agg (D8 n)] w fun e w' => e = .returned (.agg (D8 (-n))) ∧ Below w.heap.size w w' := by
  go_enter Tryd.func34, Tryd.ntmps34
  go_wp2_with fail
  go_loopw [4] (fun i wr => ∃ k nd : Nat, k ≤ 8 ∧ i = .int .i64 k ∧ wr = (((w.alloc (.cells (D8 n) 73)).alloc (.cells (D8 0) 73)).alloc (.cells (D8m (-n-1) 0 k) 73)).drewN nd) (fun i _ => 8 - (intOf i).toNat)
  case atStart => exact ⟨0, 0, by omega, rfl, by rw [D8m_none, D8_zero]; rfl⟩
  case round =>
    obtain ⟨k, nd, hk, rfl, rfl⟩ := hrel
    by_cases hlt : k < 8
    · have hg := D8m_get (-n-1) 0 k k hlt
      have hs := D8m_set (-n-1) 0 k hlt
      have g1 := D8_get n k hlt
      have b1 := dig_lo n k
      have b2 := dig_hi n k
      have c1 := dig_comp n k
      have i1 : (k : Int) < 8 := by omega
      have i2 : (0 : Int) ≤ k := by omega
      go_wp2_with fail
      go_roundw
      case rel => exact ⟨k+1, _, by omega, by go_num, rfl⟩
      case measure => simp [intOf] <;> omega
    · obtain rfl : k = 8 := by omega
      rw [D8m_full]
      unfold D8
      go_wp2_with fail
      change Calls Tryd.prog _ #[.agg (D8 (-n-1)), _] _ _
      rw [← D8_one]
      refine (ref01_Plus _ _ _).mono ?_
      rintro e w1 ⟨rfl, hb⟩
      rw [neg_one_one]
      have hg : w1.heap[w.heap.size + 1]? = some (.cells (D8 0) 73 (0, 0)) := (hb.block _ (by simp)).trans (by rw [heap_drewN, row_alloc_old _ _ _ (by simp), row_alloc_new _ _ _ (by simp)]; rfl)
      go_wp2_with (refine wpList_store_row rfl _ _ _ rfl (w.heap.size + 1) 73 (D8 0) (D8 (-n)) rfl rfl hg (by kernel_rfl) rfl (D8_all _) ?_)
      refine ret_row Tryd.results34 (w.heap.size + 1) 73 (D8 (-n)) (0, 0) _ rfl (setRow_heap _ _ _ _ _ _ hg) Tryd.underlying73 rfl (by kernel_rfl) rfl ⟨rfl, ?_⟩
      exact below_setRow (Below.trans (by repeat' (first | exact Below.refl _ _ | assumption | (refine thenB ?_ (by assumption)) | (refine belowN ?_ _) | (refine Below.alloc ?_ (by first | simp; done | (simp; omega) | omega) _) | (refine below_setRow ?_ (by first | simp; done | (simp; omega) | omega) _) | (refine Below.setCell ?_ (by first | simp; done | (simp; omega) | omega) _))) (hb.mono (by simp; omega))) (by omega) _
set_option maxHeartbeats 400000 in
theorem ref01_Below (n : Int) (w : World) : Calls Tryd.prog 33 #[.agg (D8 n)] w fun e w' => e = .returned (.bool (decide (128 ≤ dig n 7))) ∧ Below w.heap.size w w' := by
  have hg := D8_get n 7 (by omega)
  go_enter Tryd.func33, Tryd.ntmps33
  go_wp2_with fail
  go_ret
  exact ⟨rfl, (by repeat' (first | exact Below.refl _ _ | assumption | (refine thenB ?_ (by assumption)) | (refine belowN ?_ _) | (refine Below.alloc ?_ (by first | simp; done | (simp; omega) | omega) _) | (refine below_setRow ?_ (by first | simp; done | (simp; omega) | omega) _) | (refine Below.setCell ?_ (by first | simp; done | (simp; omega) | omega) _)))⟩
end Go.Proofs.YtcmpcbpdnaodmaaDoor
namespace Go.Proofs.YtcmpcbpdnaodmaaDoor
open Go.RowKit
set_option maxRecDepth 100000
set_option linter.unusedVariables false
theorem absI_wrap {a : Int} (h : (Lit.int .i64 a).wf = true) (hn : ¬ a < 0) : IntKind.u64.wrap (wrap64 a) = absI a := by
  have := wf64 h
  rw [IntWalk.wrap64_in a this, IntWalk.u64_in _ (by omega)]; simp [absI, hn]
theorem absI_wrap' {a : Int} (h : (Lit.int .i64 a).wf = true) (hn : a < 0) : IntKind.u64.wrap (wrap64 (-a)) = absI a := by
  have := wf64 h
  simp only [absI, hn, if_true]
  by_cases hm : a = -9223372036854775808
  · subst hm; simp [wrap64, IntKind.wrap, IntKind.bits, IntKind.signed]
  · rw [IntWalk.wrap64_in (-a) (by omega), IntWalk.u64_in _ (by omega)]
set_option maxHeartbeats 400000 in
theorem ref01_Size (a : Int) (wa : (Lit.int .i64 a).wf = true) (w : World) : Calls Tryd.prog 25 #[.int .i64 a] w fun e w' => e = .returned (.int .u64 (absI a)) ∧ Below w.heap.size w w' := by
  have hd := neg_dig a wa
  go_enter Tryd.func25, Tryd.ntmps25
  go_wp2_with fail
  refine (ref01_Of _ _).mono ?_
  rintro e w1 ⟨rfl, hb1⟩
  go_wp2_with (first | (refine wpList_store_new rfl _ _ _ rfl 73 _ (D8 a) rfl rfl (by kernel_rfl) rfl (D8_all _) ?_) | (refine wpList_load_new rfl _ _ rfl 73 (D8 a) _ rfl Tryd.underlying73 rfl (by kernel_rfl) ?_))
  refine (ref01_Below _ _).mono ?_
  rintro e w2 ⟨rfl, hb2⟩
  have hg2 : w2.heap[w1.heap.size]? = some (.cells (D8 a) 73 (0, 0)) := (hb2.block _ (by simp)).trans (row_alloc_new _ _ _ rfl)
  rw [hd]
  by_cases hn : a < 0
  · have hn' : decide (a < 0) = true := by simpa using hn
    rw [hn']
    have hw := absI_wrap' wa hn
    go_wp2_with (refine wpList_load_row rfl _ _ rfl w1.heap.size rfl 73 (D8 a) (0, 0) _ hg2 Tryd.underlying73 rfl (by kernel_rfl) ?_)
    refine (ref01_Minus _ _).mono ?_
    rintro e w3 ⟨rfl, hb3⟩
    have hl : w1.heap.size < w2.heap.size := lt_of_block hg2
    have hg3 : w3.heap[w1.heap.size]? = some (.cells (D8 a) 73 (0, 0)) := (hb3.block _ hl).trans hg2
    go_wp2_with (first | (refine wpList_store_row rfl _ _ _ rfl w1.heap.size 73 (D8 a) (D8 (-a)) rfl rfl hg3 (by kernel_rfl) rfl (D8_all _) ?_) | (refine wpList_load_row rfl _ _ rfl w1.heap.size rfl 73 (D8 (-a)) (0, 0) _ (setRow_heap _ _ _ _ _ _ hg3) Tryd.underlying73 rfl (by kernel_rfl) ?_))
    refine (ref01_Number _ _).mono ?_
    rintro e w4 ⟨rfl, hb4⟩
    go_wp2_with fail
    go_ret
    have z_hb1 := hb1.size; (try simp at z_hb1); have z_hb2 := hb2.size; (try simp at z_hb2); have z_hb3 := hb3.size; (try simp at z_hb3); have z_hb4 := hb4.size; (try simp at z_hb4)
    exact ⟨rfl, (by repeat' (first | exact Below.refl _ _ | assumption | (refine thenB ?_ (by assumption)) | (refine belowN ?_ _) | (refine Below.alloc ?_ (by first | simp; done | (simp; omega) | omega) _) | (refine below_setRow ?_ (by first | simp; done | (simp; omega) | omega) _) | (refine Below.setCell ?_ (by first | simp; done | (simp; omega) | omega) _)))⟩
  · have hn' : decide (a < 0) = false := by simpa using hn
    rw [hn']
    have hw := absI_wrap wa hn
    go_wp2_with (refine wpList_load_row rfl _ _ rfl w1.heap.size rfl 73 (D8 a) (0, 0) _ hg2 Tryd.underlying73 rfl (by kernel_rfl) ?_)
    refine (ref01_Number _ _).mono ?_
    rintro e w4 ⟨rfl, hb4⟩
    go_wp2_with fail
    go_ret
    have z_hb1 := hb1.size; (try simp at z_hb1); have z_hb2 := hb2.size; (try simp at z_hb2); have z_hb4 := hb4.size; (try simp at z_hb4)
    exact ⟨rfl, (by repeat' (first | exact Below.refl _ _ | assumption | (refine thenB ?_ (by assumption)) | (refine belowN ?_ _) | (refine Below.alloc ?_ (by first | simp; done | (simp; omega) | omega) _) | (refine below_setRow ?_ (by first | simp; done | (simp; omega) | omega) _) | (refine Below.setCell ?_ (by first | simp; done | (simp; omega) | omega) _)))⟩
end Go.Proofs.YtcmpcbpdnaodmaaDoor
namespace Go.Proofs.YtcmpcbpdnaodmaaDoor
open Go.RowKit
set_option maxRecDepth 100000
set_option linter.unusedVariables false
theorem abs_bd {a : Int} (h : (Lit.int .i64 a).wf = true) : 0 ≤ absI a ∧ absI a ≤ 9223372036854775808 := by
  have := wf64 h; unfold absI; split <;> omega
end Go.Proofs.YtcmpcbpdnaodmaaDoor
