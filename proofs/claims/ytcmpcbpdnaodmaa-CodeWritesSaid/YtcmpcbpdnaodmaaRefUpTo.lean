/- The reference's upTo. -/
import Derived.Test.YtcmpcbpdnaodmaaRefTake
namespace Go.Proofs.Ytcmpcbpdnaodmaa
open Go.RowKit Go.Lib
set_option linter.unusedVariables false

set_option maxRecDepth 100000 in
set_option maxHeartbeats 1000000 in
theorem ref_upTo (a : Option Addr) (cap : Nat) (b : List UInt8) (w : World) (hb : BytesAt w a cap b) (I E m : Nat) (hI : I ≤ b.length) (hm : m ≤ 9223372036854775807) :
    Calls Try.prog 23 #[.agg #[.slice a b.length cap, .int .i64 I, .int .i64 E], .int .u64 m] w (TakePost w a cap b (.int .i64 ((rCount m (E, b.drop I)).1 : Nat)) (rCount m (E, b.drop I)).2) := by
  have hle := rNum_le (E, b.drop I)
  obtain ⟨n, e1, b1, hn⟩ : ∃ n e1 b1, rNum (E, b.drop I) = (n, e1, b1) := ⟨_, _, _, rfl⟩
  rw [hn] at hle
  dsimp only at hle
  have hz : n ≠ 0 → e1 = 0 := by
    intro h0
    unfold rNum at hn
    split at hn
    · simp_all
    · split at hn <;> simp_all
  have HB := Lib.hid hb; clear hb
  by_cases hlt : m < n
  · have he1 : e1 = 0 := hz (by omega)
    subst he1
    have hR : Hid (rCount m (E, b.drop I) = (0, 2, b1)) := Lib.hid (by unfold rCount; simp only [hn]; rw [if_pos hlt])
    have HN := Lib.hid hn; clear hn hz
    have hb0 : (((0 : Nat) : Int) == 0) = true := by decide
    have hlt2 : (m : Int) < n := by omega
    go_enter Try.func23, Try.ntmps23
    go_wp2_with (first
      | (go_at_call 24; refine (ref_take a cap b _ (bytes_below HB.out (by exact (by repeat' (first | exact Below.refl _ _ | assumption | (refine thenB ?_ (by assumption)) | (refine belowN ?_ _) | (refine Below.alloc ?_ (by first | simp; done | (simp; omega) | omega) _) | (refine below_setRow ?_ (by first | simp; done | (simp; omega) | omega) _) | (refine Below.setCell ?_ (by first | simp; done | (simp; omega) | omega) _)))) (Nat.le_refl _)) I E hI).mono ?_; rintro e w1 ⟨hb1, I1, hI1, hd, rfl⟩; rw [HN.out] at hd ⊢; dsimp only at hd ⊢; have h1 : Has w1 w.heap.size #[.slice a b.length cap, .int .i64 I, .int .i64 E] 61 := has_belowT (by exact (by repeat' (first | assumption | (refine has_drewN ?_ _) | (refine has_drew ?_) | (refine has_new _ _ _ _ ?_ <;> (first | rfl | (simp; done))) | (refine has_alloc ?_ _) | (refine has_setCell ?_ _ _ (by first | assumption | (simp; omega) | omega)) | (refine has_setRow ?_ _ _ (by first | assumption | (simp; omega) | omega)) | (refine has_belowT ?_ (by assumption))))) hb1; have h2 : Has w1 (w.heap.size + 1) #[.slice none 0 0, .int .i64 0, .int .i64 0] 61 := has_belowT (by exact (by repeat' (first | assumption | (refine has_drewN ?_ _) | (refine has_drew ?_) | (refine has_new _ _ _ _ ?_ <;> (first | rfl | (simp; done))) | (refine has_alloc ?_ _) | (refine has_setCell ?_ _ _ (by first | assumption | (simp; omega) | omega)) | (refine has_setRow ?_ _ _ (by first | assumption | (simp; omega) | omega)) | (refine has_belowT ?_ (by assumption))))) hb1; have hc1 := has_cell h1; have hf1 := has_free h1; have hl1 := has_lt h1; have hc2 := has_cell h2; have hf2 := has_free h2; have hl2 := has_lt h2; have H1 := Lib.hid h1; have H2 := Lib.hid h2; have HB1 := Lib.hid hb1; have HD := Lib.hid hd; clear h1 h2 hb1 hd hc1 hf1 hl1)
      | ((refine wpList_store_row rfl _ _ _ rfl w.heap.size 61 #[.slice a b.length cap, .int .i64 I, .int .i64 E] #[.slice a b.length cap, .int .i64 I1, .int .i64 (0 : Nat)] rfl rfl H1.out (by kernel_rfl) rfl (by simp [Value.oneCell']) ?_); go_must (have h1 := setRow_heap _ _ _ #[.slice a b.length cap, .int .i64 I1, .int .i64 (0 : Nat)] _ _ H1.out; have h2 := has_setRow H2.out w.heap.size #[.slice a b.length cap, .int .i64 I1, .int .i64 (0 : Nat)] (by omega); have HBB := Lib.hid (below_setRow (thenB (w := w) (by exact (by repeat' (first | exact Below.refl _ _ | assumption | (refine thenB ?_ (by assumption)) | (refine belowN ?_ _) | (refine Below.alloc ?_ (by first | simp; done | (simp; omega) | omega) _) | (refine below_setRow ?_ (by first | simp; done | (simp; omega) | omega) _) | (refine Below.setCell ?_ (by first | simp; done | (simp; omega) | omega) _)))) HB1.out) (Nat.le_refl _) #[.slice a b.length cap, .int .i64 I1, .int .i64 (0 : Nat)]); clear hc2 hf2 hl2; obtain ⟨w2, hw2⟩ : ∃ w2, w2 = w1.setRow w.heap.size #[.slice a b.length cap, .int .i64 I1, .int .i64 (0 : Nat)] := ⟨_, rfl⟩; rw [← hw2] at h1 h2 HBB ⊢; clear hw2 H1 H2 HB1; have hc1 := has_cell h1; have hf1 := has_free h1; have hl1 := has_lt h1; have hc2 := has_cell h2; have hf2 := has_free h2; have hl2 := has_lt h2; have H1 := Lib.hid h1; have H2 := Lib.hid h2; clear h1 h2))) 
    go_region
    all_goals
      go_wp2_with fail
      refine ret_tmp_row (p := 5) (u := 4) (by rfl) (w.heap.size + 1) 61 #[.slice a b.length cap, .int .i64 I1, .int .i64 2] (0, 0) _ (by rfl) (has_drew (has_set3 (has_setCell H2.out _ _ (by simp)) _ _ _)) Try.underlying61 rfl (by kernel_rfl) (by rfl) (.int .i64 0) (by rfl) ?_
      rw [hR.out]
      exact ⟨(((((HBB.out.setCell (by simp) _).setCell (by simp) _).setCell (by simp) _).setCell (by simp) _)).drew, I1, hI1, HD.out, rfl⟩
  · have hR : Hid (rCount m (E, b.drop I) = (n, e1, b1)) := Lib.hid (by unfold rCount; simp only [hn]; rw [if_neg hlt])
    have HN := Lib.hid hn; clear hn hz
    have hlt2 : ¬(m : Int) < n := by omega
    have hnle : (n : Int) ≤ 9223372036854775807 := by omega
    have hb0 : (((e1 : Int) == 0) = true) ∨ (((e1 : Int) == 0) = false) := by cases ((e1 : Int) == 0) <;> simp
    rcases hb0 with hb0 | hb0
    all_goals
      go_enter Try.func23, Try.ntmps23
      go_wp2_with (first
        | (go_at_call 24; refine (ref_take a cap b _ (bytes_below HB.out (by exact (by repeat' (first | exact Below.refl _ _ | assumption | (refine thenB ?_ (by assumption)) | (refine belowN ?_ _) | (refine Below.alloc ?_ (by first | simp; done | (simp; omega) | omega) _) | (refine below_setRow ?_ (by first | simp; done | (simp; omega) | omega) _) | (refine Below.setCell ?_ (by first | simp; done | (simp; omega) | omega) _)))) (Nat.le_refl _)) I E hI).mono ?_; rintro e w1 ⟨hb1, I1, hI1, hd, rfl⟩; rw [HN.out] at hd ⊢; dsimp only at hd ⊢; have h1 : Has w1 w.heap.size #[.slice a b.length cap, .int .i64 I, .int .i64 E] 61 := has_belowT (by exact (by repeat' (first | assumption | (refine has_drewN ?_ _) | (refine has_drew ?_) | (refine has_new _ _ _ _ ?_ <;> (first | rfl | (simp; done))) | (refine has_alloc ?_ _) | (refine has_setCell ?_ _ _ (by first | assumption | (simp; omega) | omega)) | (refine has_setRow ?_ _ _ (by first | assumption | (simp; omega) | omega)) | (refine has_belowT ?_ (by assumption))))) hb1; have h2 : Has w1 (w.heap.size + 1) #[.slice none 0 0, .int .i64 0, .int .i64 0] 61 := has_belowT (by exact (by repeat' (first | assumption | (refine has_drewN ?_ _) | (refine has_drew ?_) | (refine has_new _ _ _ _ ?_ <;> (first | rfl | (simp; done))) | (refine has_alloc ?_ _) | (refine has_setCell ?_ _ _ (by first | assumption | (simp; omega) | omega)) | (refine has_setRow ?_ _ _ (by first | assumption | (simp; omega) | omega)) | (refine has_belowT ?_ (by assumption))))) hb1; have hc1 := has_cell h1; have hf1 := has_free h1; have hl1 := has_lt h1; have hc2 := has_cell h2; have hf2 := has_free h2; have hl2 := has_lt h2; have H1 := Lib.hid h1; have H2 := Lib.hid h2; have HB1 := Lib.hid hb1; have HD := Lib.hid hd; clear h1 h2 hb1 hd hc1 hf1 hl1)
        | ((refine wpList_store_row rfl _ _ _ rfl w.heap.size 61 #[.slice a b.length cap, .int .i64 I, .int .i64 E] #[.slice a b.length cap, .int .i64 I1, .int .i64 e1] rfl rfl H1.out (by kernel_rfl) rfl (by simp [Value.oneCell']) ?_); go_must (have h1 := setRow_heap _ _ _ #[.slice a b.length cap, .int .i64 I1, .int .i64 e1] _ _ H1.out; have h2 := has_setRow H2.out w.heap.size #[.slice a b.length cap, .int .i64 I1, .int .i64 e1] (by omega); have HBB := Lib.hid (below_setRow (thenB (w := w) (by exact (by repeat' (first | exact Below.refl _ _ | assumption | (refine thenB ?_ (by assumption)) | (refine belowN ?_ _) | (refine Below.alloc ?_ (by first | simp; done | (simp; omega) | omega) _) | (refine below_setRow ?_ (by first | simp; done | (simp; omega) | omega) _) | (refine Below.setCell ?_ (by first | simp; done | (simp; omega) | omega) _)))) HB1.out) (Nat.le_refl _) #[.slice a b.length cap, .int .i64 I1, .int .i64 e1]); clear hc2 hf2 hl2; obtain ⟨w2, hw2⟩ : ∃ w2, w2 = w1.setRow w.heap.size #[.slice a b.length cap, .int .i64 I1, .int .i64 e1] := ⟨_, rfl⟩; rw [← hw2] at h1 h2 HBB ⊢; clear hw2 H1 H2 HB1; have hc1 := has_cell h1; have hf1 := has_free h1; have hl1 := has_lt h1; have hc2 := has_cell h2; have hf2 := has_free h2; have hl2 := has_lt h2; have H1 := Lib.hid h1; have H2 := Lib.hid h2; clear h1 h2))) 
      go_region
      all_goals
        go_wp2_with fail
        refine ret_tmp_row (p := 5) (u := 4) (by rfl) (w.heap.size + 1) 61 #[.slice a b.length cap, .int .i64 I1, .int .i64 e1] (0, 0) _ (by rfl) (has_drew (has_set3 H2.out _ _ _)) Try.underlying61 rfl (by kernel_rfl) (by rfl) (.int .i64 n) (by rfl) ?_
        rw [hR.out]
        exact ⟨((((HBB.out.setCell (by simp) _).setCell (by simp) _).setCell (by simp) _)).drew, I1, hI1, HD.out, rfl⟩
end Go.Proofs.Ytcmpcbpdnaodmaa
