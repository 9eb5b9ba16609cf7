/- Parts of the proof. -/
import Derived.Test.YtcmpcbpdnaodmaaDoorLsLiList
import Derived.Lib.SmallJoins
namespace Go.Proofs.YtcmpcbpdnaodmaaDoor
open Go.RowKit
set_option linter.unusedVariables false
theorem gPow : Tryd.prog.globalNamed "internal/strconv.uint64pow10" = some 0 := by kernel_rfl
def NumOk (w : World) (n : Int) : Prop := (-9223372036854775808 ≤ n ∧ n ≤ 9223372036854775807) ∧ Lib.TabIs Tryd.prog w "internal/strconv.uint64pow10" .u64 Lib.pow10Tab
theorem NumOk.below {w w' : World} {n : Int} (h : NumOk w n) (hb : Below w.heap.size w w') : NumOk w' n := ⟨h.1, Go.Joins.tab_stays gPow h.2 hb (Nat.le_refl _)⟩
theorem NumOk.range {w : World} {n : Int} (h : NumOk w n) : -9223372036854775808 ≤ n ∧ n ≤ 9223372036854775807 := h.1
theorem below_grew (w : World) (q : Nat) (os : Array Obj) : Below w.heap.size w (Go.Sort.grow (w.drewN q) os) :=
  ⟨rfl, rfl, rfl, by first | (simp [Go.Sort.grow]; done) | (simp [Go.Sort.grow]; omega), fun i hi => by
    show ((w.drewN q).heap ++ os)[i]? = _
    rw [Array.getElem?_append_left (by show i < w.heap.size; omega)]
    rfl⟩
theorem num_itoa {w : World} {n : Int} (h : NumOk w n) : Calls Tryd.prog 14 #[.int .i64 n] w fun e w' => e = .returned (.string (mkS (decL n))) ∧ Below w.heap.size w w' := by
  refine (Tryd.strconv_Itoa n h.1.1 h.1.2 w h.2).mono ?_
  rintro e w' ⟨rfl, k, os, rfl⟩
  exact ⟨by rw [decL_eq h.1.1 h.1.2], below_grew w k os⟩
theorem num_fmt {w : World} {n : Int} (h : NumOk w n) : Calls Tryd.prog 16 #[.int .i64 n, .int .i64 10] w fun e w' => e = .returned (.string (mkS (decL n))) ∧ Below w.heap.size w w' := by
  refine (Tryd.strconv_FormatInt_10 n h.1.1 h.1.2 w h.2).mono ?_
  rintro e w' ⟨rfl, k, os, rfl⟩
  exact ⟨by rw [decL_eq h.1.1 h.1.2], below_grew w k os⟩
end Go.Proofs.YtcmpcbpdnaodmaaDoor
