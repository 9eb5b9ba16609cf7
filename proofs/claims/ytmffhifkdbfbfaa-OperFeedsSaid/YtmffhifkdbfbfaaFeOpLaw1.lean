/- Parts of the proof. -/
import Derived.Test.YtmffhifkdbfbfaaFeHpLaw
import Ieee.Arith
import Derived.Laws.ComplexArith
namespace Go.Proofs.Ytmffhifkdbfbfaa
open Go.RowKit
set_option linter.unusedVariables false
set_option maxHeartbeats 2000000
theorem clone64 (l : List Int) (h : l.length ≤ 1000000) : slices_Clone_int64 l = some l := by
  unfold slices_Clone_int64
  rw [if_pos (appOb (by simp; omega) (by simp; omega)), List.nil_append]
theorem awake13 : hindcastlaw13_awake = some true := by
  have hb : oper_Bin (GHeapHeap.new 5) 4 (GApiValue.mk 1 1 0 0) (GApiValue.mk 1 0 0 0) = some (GApiValue.mk 0 0 0 0, 1, true, GHeapHeap.new 5) := by
    simp [oper_Bin, oper_ref, oper_Bin_j1, oper_ints, num_Compare, cmp_Compare_int64, cmp_isNaN_int64, num_Div, oper_ints_j0]
  have hn : oper_New ([] : List Int) ([(-1)] : List Int) 0 0 = some (some ⟨[], [-1], 0, 0⟩) := by
    unfold oper_New
    rw [clone64 _ (by simp), clone64 _ (by simp), obind_some, obind_some]; rfl
  have hd : oper_Feed_Draw ⟨[], [-1], 0, 0⟩ 3 = some (2, 0, ⟨[], [-1], 0, 1⟩) := by
    have e1 : Int.tmod (-1) 3 = -1 := by decide
    have e2 : w64 (-1 + 3) = 2 := by decide
    have e3 : w64 (0 + 1) = 1 := by decide
    have e4 : getI ([-1] : List Int) 0 = some (-1) := by decide
    unfold oper_Feed_Draw
    simp only [e4, obind_some, e1]
    simp
    decide
  have hw : xheap_New 5 = some (some (GHeapHeap.new 5), 0) := by unfold xheap_New; rw [if_neg (by decide)]
  unfold hindcastlaw13_awake
  rw [hw, obind_some]
  simp only [optCase]
  rw [hb, obind_some, hn, obind_some]
  show (oper_Feed_Draw ⟨[], [-1], 0, 0⟩ 3).bind _ = _
  rw [hd, obind_some]
  simp [hindcastlaw13_awake_j0]
theorem clamp (a n : Int) (hn : 0 ≤ n) : 0 ≤ (if n < (if a < 0 then 0 else a) then n else (if a < 0 then 0 else a)) ∧ (if n < (if a < 0 then 0 else a) then n else (if a < 0 then 0 else a)) ≤ n := by
  split <;> split <;> omega
theorem draw_some (f : GOperFeed) (n : Int) (h0 : 0 ≤ f.drawn_) (h1 : f.drawn_ ≤ f.draws_.length) : ∃ r, oper_Feed_Draw f n = some r := by
  unfold oper_Feed_Draw
  by_cases c1 : n < 1
  · rw [if_pos c1]; exact ⟨_, rfl⟩
  rw [if_neg c1]
  by_cases c2 : f.drawn_ = (f.draws_.length : Int)
  · rw [if_pos c2]; exact ⟨_, rfl⟩
  rw [if_neg c2, getI_at h0 (by omega), obind_some, if_pos (by omega)]
  split <;> exact ⟨_, rfl⟩
theorem operFeeds_all (a0 a1 : List Int) (a2 a3 a4 : Int) (h0 : a0.length ≤ maxLen ∧ ∀ x ∈ a0, okI .i64 x) (h1 : a1.length ≤ maxLen ∧ ∀ x ∈ a1, okI .i64 x) (h2 : okI .i64 a2) (h3 : okI .i64 a3) (h4 : okI .i64 a4) : hindcastlaw13_OperFeeds a0 a1 a2 a3 a4 = some true := by
  have hj : hindcastlaw13_OperFeeds_j0 = some true := by unfold hindcastlaw13_OperFeeds_j0; rw [awake13]; rfl
  unfold hindcastlaw13_OperFeeds
  by_cases c0 : (a0.length : Int) > 100
  · rw [if_pos c0, hj]
  by_cases c1 : (a1.length : Int) > 100
  · rw [if_neg c0, if_pos c1, hj]
  rw [if_neg c0, if_neg c1]
  obtain ⟨b1, b2⟩ := clamp a2 a0.length (by omega)
  obtain ⟨b3, b4⟩ := clamp a3 a1.length (by omega)
  unfold oper_New
  rw [clone64 _ (by omega), clone64 _ (by omega), obind_some, obind_some, obind_some]
  simp only [optCase]
  generalize (if (a0.length : Int) < (if a2 < 0 then 0 else a2) then (a0.length : Int) else (if a2 < 0 then 0 else a2)) = p at *
  generalize (if (a1.length : Int) < (if a3 < 0 then 0 else a3) then (a1.length : Int) else (if a3 < 0 then 0 else a3)) = q at *
  simp only [oper_Feed_Gone, obind_some, if_true, oper_Feed_Copy]
  have hrd : ∃ x ok p', oper_Feed_Read ⟨a0, a1, p, q⟩ = some (x, ok, ⟨a0, a1, p', q⟩) := by
    unfold oper_Feed_Read
    by_cases c : p = (a0.length : Int)
    · rw [if_pos c]; exact ⟨_, _, _, rfl⟩
    · rw [if_neg c]
      simp only
      have e1 : w64 (p + 1) = p + 1 := wrap64 (by omega) (by omega)
      have e2 : w64 (p + 1 - 1) = p := by rw [wrap64 (by omega) (by omega)]; omega
      rw [e1, e2, getI_at b1 (by omega)]; exact ⟨_, _, _, rfl⟩
  obtain ⟨x, ok, p', hr⟩ := hrd
  rw [hr]
  simp only [obind_some]
  obtain ⟨d, hd⟩ := draw_some ⟨a0, a1, p', q⟩ a4 b3 (by simpa using b4)
  rw [hd]
  simp only [obind_some]
  unfold hindcastlaw13_OperFeeds_j1
  have hq : oper_Feed_Draw_n () (if a4 < 1 then 1 else a4) = some (0, 6) := by
    unfold oper_Feed_Draw_n; rw [if_neg]; split <;> omega
  rw [hq, awake13]
  simp [oper_Feed_Read_n, oper_Feed_Gone_n, oper_Feed_Copy_n, optCase]
end Go.Proofs.Ytmffhifkdbfbfaa
