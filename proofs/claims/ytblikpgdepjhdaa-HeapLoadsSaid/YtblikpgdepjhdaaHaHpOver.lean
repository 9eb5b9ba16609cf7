/- Parts of the proof. -/
import Derived.Test.YtblikpgdepjhdaaHaHpNil
namespace Go.Proofs.Ytblikpgdepjhdaa
open Go.RowKit
set_option maxRecDepth 100000
set_option linter.unusedVariables false
set_option maxHeartbeats 4000000
theorem heap_io2 {P : Program} {f : FuncId} {xs : List A} {H H' : GHeapHeap} {r : A} {v0 : Value} (hpl : plainFn P f = true) (hr : scal3 r = true) (hfl : ∀ a ∈ xs, flat2 a = true) (hv : ∀ w, RepF w (fun _ => False) r v0)
    (h : ∀ (w : World) (M own : Nat → Prop) (b : Nat) (pls : List OPl) (ps : List Value) (lv : Value) (vals : Array Value), HeapAt H w M own b pls ps lv → (∀ k, M k → k < w.heap.size) → M b → (∀ k, own k → M k) → vals.size = xs.length + 1 →
      vals.getD 0 undef = .pointer (some ⟨b, 0, none⟩) → (∀ i (hi : i < xs.length), RepF w M (xs[i]) (vals.getD (i + 1) undef)) → Calls P f vals w fun e w' => e = .returned v0 ∧ HeapOut H' M own b w w') :
    FnIO P f (A.ob 900 :: xs) [(900, .obj (.any (rep_GHeapHeap H)))] r [(900, .obj (.any (rep_GHeapHeap H')))] :=
  heap_io hpl hr hfl fun w M own b pls ps lv vals hat h1 h2 h3 h4 h5 h6 => (h w M own b pls ps lv vals hat h1 h2 h3 h4 h5 h6).mono fun e w' ⟨he, own', h7, h8, h9⟩ => ⟨v0, own', he, hv w', h7, h8, h9⟩
theorem heap_ioR {P : Program} {f : FuncId} {xs : List A} {H : GHeapHeap} {r : A} {v0 : Value} (hpl : plainFn P f = true) (hr : scal3 r = true) (hfl : ∀ a ∈ xs, flat2 a = true) (hv : ∀ w, RepF w (fun _ => False) r v0)
    (h : ∀ (w : World) (M own : Nat → Prop) (b : Nat) (pls : List OPl) (ps : List Value) (lv : Value) (vals : Array Value), HeapAt H w M own b pls ps lv → vals.size = xs.length + 1 →
      vals.getD 0 undef = .pointer (some ⟨b, 0, none⟩) → (∀ i (hi : i < xs.length), RepF w M (xs[i]) (vals.getD (i + 1) undef)) → Calls P f vals w fun e w' => Below w.heap.size w w' ∧ e = .returned v0) :
    FnIO P f (A.ob 900 :: xs) [(900, .obj (.any (rep_GHeapHeap H)))] r [(900, .obj (.any (rep_GHeapHeap H)))] :=
  heap_io2 hpl hr hfl hv fun w M own b pls ps lv vals hat h1 h2 h3 h4 h5 h6 => (h w M own b pls ps lv vals hat h4 h5 h6).mono fun e w' ⟨hb, he⟩ => ⟨he, HeapOut.refl hat hb h3⟩
theorem all_flat1 {p : A → Bool} {a : A} (h : p a = true) : ∀ x ∈ [a], p x = true := fun x hx => by rcases List.mem_singleton.1 hx with rfl; exact h
theorem all_flat2 {p : A → Bool} {a b : A} (h : p a = true) (h' : p b = true) : ∀ x ∈ [a, b], p x = true := fun x hx => by
  rcases List.mem_cons.1 hx with rfl | hx
  · exact h
  · rcases List.mem_singleton.1 hx with rfl; exact h'
theorem all_flat3 {p : A → Bool} {a b c : A} (h : p a = true) (h' : p b = true) (h'' : p c = true) : ∀ x ∈ [a, b, c], p x = true := fun x hx => by
  rcases List.mem_cons.1 hx with rfl | hx
  · exact h
  · exact all_flat2 h' h'' x hx
def xheap_Heap_Size (H : GHeapHeap) (a1 : GApiValue) : Option (Int × Int) := some (H.size a1.Kind a1.N)
theorem xheap_Heap_Size_ok {H : GHeapHeap} {a1 : GApiValue} {r : Int × Int} (h : xheap_Heap_Size H a1 = some r) : RI_heap_Heap_Size H a1 r := by
  cases h
  refine heap_ioR (by kernel_rfl) rfl (all_flat1 rfl) (fun w => repF_tup2 (repF_v _ _ _ rfl) (repF_v _ _ _ rfl)) fun w M own b pls ps lv vals hat hs h0 hrep => ?_
  rw [vals2 hs h0 (repF_value (hrep 0 (by simp)))]
  exact heap_Size _ _ _ _ hat
def xheap_Heap_Cells (H : GHeapHeap)  : Option (Int) := some (H.cells)
theorem xheap_Heap_Cells_ok {H : GHeapHeap}  {r : Int} (h : xheap_Heap_Cells H  = some r) : RI_heap_Heap_Cells H  r := by
  cases h
  refine heap_ioR (by kernel_rfl) rfl (fun x hx => by simp at hx) (fun w => repF_v _ _ _ rfl) fun w M own b pls ps lv vals hat hs h0 hrep => ?_
  rw [vals1 hs h0 ]
  exact heap_Cells hat
def xheap_Heap_Str (H : GHeapHeap) (a1 : List UInt8) : Option (GApiValue × Bool × GHeapHeap) := if a1.length < 4611686018427387904 then some (H.str a1) else none
theorem xheap_Heap_Str_ok {H : GHeapHeap} {a1 : List UInt8} {r : GApiValue × Bool × GHeapHeap} (h : xheap_Heap_Str H a1 = some r) : RI_heap_Heap_Str H a1 r := by
  unfold xheap_Heap_Str at h
  split at h
  · rename_i hl
    cases h
    refine heap_io2 (by kernel_rfl) rfl (all_flat1 rfl) (fun w => repF_tup2 (repF_value_mk _ _ _) (repF_v _ _ _ rfl)) fun w M own b pls ps lv vals hat h1 h2 h3 hs h0 hrep => ?_
    rw [vals2 hs h0 (rep_val (hrep 0 (by simp)))]
    exact heap_Str a1 hat h1 h2 h3 hl
  · cases h
def xheap_Heap_List (H : GHeapHeap) (a1 a2 : Int) (a3 : GApiValue) : Option (GApiValue × Bool × GHeapHeap) := some (H.list_ a1 a2 a3)
theorem xheap_Heap_List_ok {H : GHeapHeap} {a1 a2 : Int} {a3 : GApiValue} {r : GApiValue × Bool × GHeapHeap} (h : xheap_Heap_List H a1 a2 a3 = some r) : RI_heap_Heap_List H a1 a2 a3 r := by
  cases h
  refine heap_io2 (by kernel_rfl) rfl (all_flat3 rfl rfl rfl) (fun w => repF_tup2 (repF_value_mk _ _ _) (repF_v _ _ _ rfl)) fun w M own b pls ps lv vals hat h1 h2 h3 hs h0 hrep => ?_
  rw [vals4 hs h0 (rep_val (hrep 0 (by simp))) (rep_val (hrep 1 (by simp))) (repF_value (hrep 2 (by simp)))]
  exact heap_List a1 a2 a3 hat h1 h2 h3
def putOk (o : GApiObj) : Prop := o.Vals.length ≤ 65536 ∧ (o.Kind = 3 ∨ o.Text = [])
instance (o : GApiObj) : Decidable (putOk o) := by unfold putOk; infer_instance
end Go.Proofs.Ytblikpgdepjhdaa
