/- Parts of the proof. -/
import Derived.Test.YtcmpcbpdnaodmaaDoorLsXI
import Derived.BigRegion
import Derived.Great.BuildSlice
import Derived.Great.Walk
import Derived.Laws.Tables
namespace Go.Proofs.YtcmpcbpdnaodmaaDoor
open Go.RowKit Go.Great
set_option linter.unusedVariables false
def insNames : List (List UInt8) := [
  [],
  [112, 111, 105, 110, 116],
  [105, 110, 116],
  [98, 111, 111, 108],
  [99, 111, 109, 112],
  [115, 116, 114],
  [110, 105, 108],
  [108, 111, 97, 100],
  [115, 116, 111, 114, 101],
  [117, 110],
  [98, 105, 110],
  [106, 117, 109, 112],
  [102, 97, 108, 115, 101],
  [97, 110, 100],
  [111, 114],
  [105, 110, 100, 101, 120],
  [112, 117, 116],
  [102, 105, 101, 108, 100],
  [112, 117, 116, 102],
  [99, 97, 108, 108],
  [98, 117, 105, 108, 116],
  [108, 105, 115, 116],
  [114, 101, 99],
  [112, 114, 105, 110, 116],
  [112, 111, 112],
  [114, 101, 116, 117, 114, 110],
  [108, 101, 97, 118, 101]]
def insName (op : Int) : List UInt8 := (insNames[op.toNat]?).getD []
def nmCells : Array Value := (insNames.map fun s => Value.string (mkS s)).toArray
def zrCells : Array Value := (List.replicate 27 (Value.string (mkS []))).toArray
theorem nm_get (op : Int) (h0 : 0 ≤ op) (h1 : op < 27) : nmCells[op.toNat]? = some (.string (mkS (insName op))) := by
  have hl : op.toNat < insNames.length := by show op.toNat < 27; omega
  unfold nmCells insName
  simp [hl]
set_option maxRecDepth 100000 in
theorem name_lo (op : Int) (h0 : 0 ≤ op) (h1 : op < 27) (w : World) : Calls Tryd.prog 7 #[.int .u8 op] w fun e w' => e = .returned (.string (mkS (insName op))) ∧ Below w.heap.size w w' := by
  go_enter Tryd.func7, Tryd.ntmps7
  apply wp_seq_k; intro K0 hK0
  apply wp_region_lit
  refine wpList_runTo rfl (some 2) rfl (.string (mkS [])) w (by as_aux_lemma => kernel_rfl) ?_
  apply wpList_nil
  refine hK0 _ _ ?_
  clear hK0 K0
  apply wp_seq_k; intro K1 hK1
  apply wp_region_lit
  refine wpList_buildTo rfl 52 _ rfl (some 4) rfl nmCells (by as_aux_lemma => kernel_rfl) ?_
  refine wpList_allocTo rfl (some 3) rfl (.pointer (some ⟨w.heap.size, 0, none⟩)) (.cells zrCells 52) (by as_aux_lemma => kernel_rfl) ?_
  have hg : (w.alloc (.cells zrCells 52)).heap[w.heap.size]? = some (.cells zrCells 52 (0, 0)) := heap_alloc_last w _
  refine Go.wpList_store_row rfl 52 _ _ rfl w.heap.size nmCells rfl rfl 52 zrCells hg (by as_aux_lemma => kernel_rfl) (by as_aux_lemma => kernel_rfl) (by as_aux_lemma => kernel_rfl) ?_
  have hB : Below w.heap.size w ((w.alloc (.cells zrCells 52)).setRow w.heap.size nmCells) := below_setRow ((Below.refl _ w).alloc (Nat.le_refl _) _) (Nat.le_refl _) _
  have hc : ((w.alloc (.cells zrCells 52)).setRow w.heap.size nmCells).cell? ⟨w.heap.size, op.toNat, none⟩ = some (.string (mkS (insName op))) := by
    rw [cell_setRow_same _ _ _ _ _ _ _ hg]
    exact nm_get op h0 h1
  generalize (w.alloc (.cells zrCells 52)).setRow w.heap.size nmCells = W at hB hc ⊢
  generalize nmCells = nc
  apply wpList_nil
  refine hK1 _ _ ?_
  clear hK1 K1 hg
  go_wp2
  go_ret
  exact ⟨rfl, hB⟩
set_option maxRecDepth 100000 in
theorem name_hi (op : Int) (h0 : 27 ≤ op) (h1 : op < 256) (w : World) : Calls Tryd.prog 7 #[.int .u8 op] w fun e w' => e = .returned (.string (mkS [])) ∧ Below w.heap.size w w' := by
  go_enter Tryd.func7, Tryd.ntmps7
  apply wp_seq_k; intro K0 hK0
  apply wp_region_lit
  refine wpList_runTo rfl (some 2) rfl (.string (mkS [])) w (by as_aux_lemma => kernel_rfl) ?_
  apply wpList_nil
  refine hK0 _ _ ?_
  clear hK0 K0
  apply wp_seq_k; intro K1 hK1
  apply wp_region_lit
  refine wpList_buildTo rfl 52 _ rfl (some 4) rfl nmCells (by as_aux_lemma => kernel_rfl) ?_
  refine wpList_allocTo rfl (some 3) rfl (.pointer (some ⟨w.heap.size, 0, none⟩)) (.cells zrCells 52) (by as_aux_lemma => kernel_rfl) ?_
  have hg : (w.alloc (.cells zrCells 52)).heap[w.heap.size]? = some (.cells zrCells 52 (0, 0)) := heap_alloc_last w _
  refine Go.wpList_store_row rfl 52 _ _ rfl w.heap.size nmCells rfl rfl 52 zrCells hg (by as_aux_lemma => kernel_rfl) (by as_aux_lemma => kernel_rfl) (by as_aux_lemma => kernel_rfl) ?_
  have hB : Below w.heap.size w ((w.alloc (.cells zrCells 52)).setRow w.heap.size nmCells) := below_setRow ((Below.refl _ w).alloc (Nat.le_refl _) _) (Nat.le_refl _) _
  generalize (w.alloc (.cells zrCells 52)).setRow w.heap.size nmCells = W at hB ⊢
  generalize nmCells = nc
  apply wpList_nil
  refine hK1 _ _ ?_
  clear hK1 K1 hg
  go_wp2
  go_ret
  exact ⟨rfl, hB⟩
theorem name_walk (op : Int) (h0 : 0 ≤ op) (h1 : op < 256) (w : World) : Calls Tryd.prog 7 #[.int .u8 op] w fun e w' => e = .returned (.string (mkS (insName op))) ∧ Below w.heap.size w w' := by
  by_cases h : op < 27
  · exact name_lo op h0 h w
  · have e : insName op = [] := by
      have hl : insNames.length ≤ op.toNat := by show 27 ≤ op.toNat; omega
      unfold insName
      rw [List.getElem?_eq_none hl]
      rfl
    rw [e]
    exact name_hi op (by omega) h1 w
end Go.Proofs.YtcmpcbpdnaodmaaDoor
