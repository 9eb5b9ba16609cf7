/- Parts of the proof. -/
import Derived.Test.YtmffhifkdbfbfaaJoHpLaw
import Ieee.Arith
import Derived.Laws.ComplexArith
namespace Go.Proofs.Ytmffhifkdbfbfaa
open Go.RowKit
set_option linter.unusedVariables false
set_option maxHeartbeats 2000000
theorem clone64 (l : List Int) (h : l.length ≤ 1000000) : slices_Clone_int64 l = some l := by
  unfold slices_Clone_int64
  rw [if_pos (appOb (by simp; omega) (by simp; omega)), List.nil_append]
theorem awake13 : hindcastlaw13_awake = some true := by
  have hb : oper_Bin (GHeapHeap.new 5) 4 (GApiValue.mk 1 1 0 0) (GApiValue.mk 1 0 0 0) = some (GApiValue.mk 0 0 0 0, 1, true, GHeapHeap.new 5) := by
    simp [oper_Bin, oper_ref, oper_Bin_j1, oper_ints, num_Compare, cmp_Compare_int64, cmp_isNaN_int64, num_Div, oper_ints_j0]
  have hn : oper_New ([] : List Int) ([(-1)] : List Int) 0 0 = some (some ⟨[], [-1], 0, 0⟩) := by
    unfold oper_New
    rw [clone64 _ (by simp), clone64 _ (by simp), obind_some, obind_some]; rfl
  have hd : oper_Feed_Draw ⟨[], [-1], 0, 0⟩ 3 = some (2, 0, ⟨[], [-1], 0, 1⟩) := by
    have e1 : Int.tmod (-1) 3 = -1 := by decide
    have e2 : w64 (-1 + 3) = 2 := by decide
    have e3 : w64 (0 + 1) = 1 := by decide
    have e4 : getI ([-1] : List Int) 0 = some (-1) := by decide
    unfold oper_Feed_Draw
    simp only [e4, obind_some, e1]
    simp
    decide
  have hw : xheap_New 5 = some (some (GHeapHeap.new 5), 0) := by unfold xheap_New; rw [if_neg (by decide)]
  unfold hindcastlaw13_awake
  rw [hw, obind_some]
  simp only [optCase]
  rw [hb, obind_some, hn, obind_some]
  show (oper_Feed_Draw ⟨[], [-1], 0, 0⟩ 3).bind _ = _
  rw [hd, obind_some]
  simp [hindcastlaw13_awake_j0]
end Go.Proofs.Ytmffhifkdbfbfaa
