/- Parts of the proof. -/
import Derived.Test.YtmffhifkdbfbfaaEqD8Walks
namespace Go.Proofs.Ytmffhifkdbfbfaa
open Go.RowKit
set_option maxRecDepth 100000
set_option linter.unusedVariables false
theorem absI_wrap {a : Int} (h : (Lit.int .i64 a).wf = true) (hn : ¬ a < 0) : IntKind.u64.wrap (wrap64 a) = absI a := by
  have := wf64 h
  rw [IntWalk.wrap64_in a this, IntWalk.u64_in _ (by omega)]; simp [absI, hn]
theorem absI_wrap' {a : Int} (h : (Lit.int .i64 a).wf = true) (hn : a < 0) : IntKind.u64.wrap (wrap64 (-a)) = absI a := by
  have := wf64 h
  simp only [absI, hn, if_true]
  by_cases hm : a = -9223372036854775808
  · subst hm; simp [wrap64, IntKind.wrap, IntKind.bits, IntKind.signed]
  · rw [IntWalk.wrap64_in (-a) (by omega), IntWalk.u64_in _ (by omega)]
set_option maxHeartbeats 400000 in
theorem ref01_Size (a : Int) (wa : (Lit.int .i64 a).wf = true) (w : World) : Calls Try.prog 97 #[.int .i64 a] w fun e w' => e = .returned (.int .u64 (absI a)) ∧ Below w.heap.size w w' := by
  have hd := neg_dig a wa
  go_enter Try.func97, Try.ntmps97
  go_wp2_with fail
  refine (ref01_Of _ _).mono ?_
  rintro e w1 ⟨rfl, hb1⟩
  go_wp2_with (first | (refine wpList_store_new rfl _ _ _ rfl 74 _ (D8 a) rfl rfl (by kernel_rfl) rfl (D8_all _) ?_) | (refine wpList_load_new rfl _ _ rfl 74 (D8 a) _ rfl Try.underlying74 rfl (by kernel_rfl) ?_))
  refine (ref01_Below _ _).mono ?_
  rintro e w2 ⟨rfl, hb2⟩
  have hg2 : w2.heap[w1.heap.size]? = some (.cells (D8 a) 74 (0, 0)) := (hb2.block _ (by simp)).trans (row_alloc_new _ _ _ rfl)
  rw [hd]
  by_cases hn : a < 0
  · have hn' : decide (a < 0) = true := by simpa using hn
    rw [hn']
    have hw := absI_wrap' wa hn
    go_wp2_with (refine wpList_load_row rfl _ _ rfl w1.heap.size rfl 74 (D8 a) (0, 0) _ hg2 Try.underlying74 rfl (by kernel_rfl) ?_)
    refine (ref01_Minus _ _).mono ?_
    rintro e w3 ⟨rfl, hb3⟩
    have hl : w1.heap.size < w2.heap.size := lt_of_block hg2
    have hg3 : w3.heap[w1.heap.size]? = some (.cells (D8 a) 74 (0, 0)) := (hb3.block _ hl).trans hg2
    go_wp2_with (first | (refine wpList_store_row rfl _ _ _ rfl w1.heap.size 74 (D8 a) (D8 (-a)) rfl rfl hg3 (by kernel_rfl) rfl (D8_all _) ?_) | (refine wpList_load_row rfl _ _ rfl w1.heap.size rfl 74 (D8 (-a)) (0, 0) _ (setRow_heap _ _ _ _ _ _ hg3) Try.underlying74 rfl (by kernel_rfl) ?_))
    refine (ref01_Number _ _).mono ?_
    rintro e w4 ⟨rfl, hb4⟩
    go_wp2_with fail
    go_ret
    have z_hb1 := hb1.size; (try simp at z_hb1); have z_hb2 := hb2.size; (try simp at z_hb2); have z_hb3 := hb3.size; (try simp at z_hb3); have z_hb4 := hb4.size; (try simp at z_hb4)
    exact ⟨rfl, (by repeat' (first | exact Below.refl _ _ | assumption | (refine thenB ?_ (by assumption)) | (refine belowN ?_ _) | (refine Below.alloc ?_ (by first | simp; done | (simp; omega) | omega) _) | (refine below_setRow ?_ (by first | simp; done | (simp; omega) | omega) _) | (refine Below.setCell ?_ (by first | simp; done | (simp; omega) | omega) _)))⟩
  · have hn' : decide (a < 0) = false := by simpa using hn
    rw [hn']
    have hw := absI_wrap wa hn
    go_wp2_with (refine wpList_load_row rfl _ _ rfl w1.heap.size rfl 74 (D8 a) (0, 0) _ hg2 Try.underlying74 rfl (by kernel_rfl) ?_)
    refine (ref01_Number _ _).mono ?_
    rintro e w4 ⟨rfl, hb4⟩
    go_wp2_with fail
    go_ret
    have z_hb1 := hb1.size; (try simp at z_hb1); have z_hb2 := hb2.size; (try simp at z_hb2); have z_hb4 := hb4.size; (try simp at z_hb4)
    exact ⟨rfl, (by repeat' (first | exact Below.refl _ _ | assumption | (refine thenB ?_ (by assumption)) | (refine belowN ?_ _) | (refine Below.alloc ?_ (by first | simp; done | (simp; omega) | omega) _) | (refine below_setRow ?_ (by first | simp; done | (simp; omega) | omega) _) | (refine Below.setCell ?_ (by first | simp; done | (simp; omega) | omega) _)))⟩
end Go.Proofs.Ytmffhifkdbfbfaa
