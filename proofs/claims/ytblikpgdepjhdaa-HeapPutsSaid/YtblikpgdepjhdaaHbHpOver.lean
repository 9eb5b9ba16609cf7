/- Parts of the proof. -/
import Derived.Test.YtblikpgdepjhdaaHbHpNil
namespace Go.Proofs.Ytblikpgdepjhdaa
open Go.RowKit
set_option maxRecDepth 100000
set_option linter.unusedVariables false
set_option maxHeartbeats 4000000
theorem heap_io2 {P : Program} {f : FuncId} {xs : List A} {H H' : GHeapHeap} {r : A} {v0 : Value} (hpl : plainFn P f = true) (hr : scal3 r = true) (hfl : ∀ a ∈ xs, flat2 a = true) (hv : ∀ w, RepF w (fun _ => False) r v0)
    (h : ∀ (w : World) (M own : Nat → Prop) (b : Nat) (pls : List OPl) (ps : List Value) (lv : Value) (vals : Array Value), HeapAt H w M own b pls ps lv → (∀ k, M k → k < w.heap.size) → M b → (∀ k, own k → M k) → vals.size = xs.length + 1 →
      vals.getD 0 undef = .pointer (some ⟨b, 0, none⟩) → (∀ i (hi : i < xs.length), RepF w M (xs[i]) (vals.getD (i + 1) undef)) → Calls P f vals w fun e w' => e = .returned v0 ∧ HeapOut H' M own b w w') :
    FnIO P f (A.ob 900 :: xs) [(900, .obj (.any (rep_GHeapHeap H)))] r [(900, .obj (.any (rep_GHeapHeap H')))] :=
  heap_io hpl hr hfl fun w M own b pls ps lv vals hat h1 h2 h3 h4 h5 h6 => (h w M own b pls ps lv vals hat h1 h2 h3 h4 h5 h6).mono fun e w' ⟨he, own', h7, h8, h9⟩ => ⟨v0, own', he, hv w', h7, h8, h9⟩
theorem heap_ioR {P : Program} {f : FuncId} {xs : List A} {H : GHeapHeap} {r : A} {v0 : Value} (hpl : plainFn P f = true) (hr : scal3 r = true) (hfl : ∀ a ∈ xs, flat2 a = true) (hv : ∀ w, RepF w (fun _ => False) r v0)
    (h : ∀ (w : World) (M own : Nat → Prop) (b : Nat) (pls : List OPl) (ps : List Value) (lv : Value) (vals : Array Value), HeapAt H w M own b pls ps lv → vals.size = xs.length + 1 →
      vals.getD 0 undef = .pointer (some ⟨b, 0, none⟩) → (∀ i (hi : i < xs.length), RepF w M (xs[i]) (vals.getD (i + 1) undef)) → Calls P f vals w fun e w' => Below w.heap.size w w' ∧ e = .returned v0) :
    FnIO P f (A.ob 900 :: xs) [(900, .obj (.any (rep_GHeapHeap H)))] r [(900, .obj (.any (rep_GHeapHeap H)))] :=
  heap_io2 hpl hr hfl hv fun w M own b pls ps lv vals hat h1 h2 h3 h4 h5 h6 => (h w M own b pls ps lv vals hat h4 h5 h6).mono fun e w' ⟨hb, he⟩ => ⟨he, HeapOut.refl hat hb h3⟩
theorem all_flat1 {p : A → Bool} {a : A} (h : p a = true) : ∀ x ∈ [a], p x = true := fun x hx => by rcases List.mem_singleton.1 hx with rfl; exact h
theorem all_flat2 {p : A → Bool} {a b : A} (h : p a = true) (h' : p b = true) : ∀ x ∈ [a, b], p x = true := fun x hx => by
  rcases List.mem_cons.1 hx with rfl | hx
  · exact h
  · rcases List.mem_singleton.1 hx with rfl; exact h'
theorem all_flat3 {p : A → Bool} {a b c : A} (h : p a = true) (h' : p b = true) (h'' : p c = true) : ∀ x ∈ [a, b, c], p x = true := fun x hx => by
  rcases List.mem_cons.1 hx with rfl | hx
  · exact h
  · exact all_flat2 h' h'' x hx
theorem valsR_repT {w : World} {M : Nat → Prop} {v : Value} {l : List GApiValue} (h : RepF w M (.t (.sl 4 (l.map c_GApiValue))) v) : ValsR w v l := valsR_t (rep_t h)
def xheap_Heap_Text (H : GHeapHeap) (a1 : GApiValue) : Option ((List UInt8) × Bool) := some (H.text a1.Kind a1.N)
theorem xheap_Heap_Text_ok {H : GHeapHeap} {a1 : GApiValue} {r : (List UInt8) × Bool} (h : xheap_Heap_Text H a1 = some r) : RI_heap_Heap_Text H a1 r := by
  cases h
  refine heap_ioR (by kernel_rfl) rfl (all_flat1 rfl) (fun w => repF_tup2 (repF_v _ _ _ rfl) (repF_v _ _ _ rfl)) fun w M own b pls ps lv vals hat hs h0 hrep => ?_
  rw [vals2 hs h0 (repF_value (hrep 0 (by simp)))]
  exact heap_Text _ _ _ _ hat
def xheap_Heap_Size (H : GHeapHeap) (a1 : GApiValue) : Option (Int × Int) := some (H.size a1.Kind a1.N)
theorem xheap_Heap_Size_ok {H : GHeapHeap} {a1 : GApiValue} {r : Int × Int} (h : xheap_Heap_Size H a1 = some r) : RI_heap_Heap_Size H a1 r := by
  cases h
  refine heap_ioR (by kernel_rfl) rfl (all_flat1 rfl) (fun w => repF_tup2 (repF_v _ _ _ rfl) (repF_v _ _ _ rfl)) fun w M own b pls ps lv vals hat hs h0 hrep => ?_
  rw [vals2 hs h0 (repF_value (hrep 0 (by simp)))]
  exact heap_Size _ _ _ _ hat
def xheap_Heap_Of (H : GHeapHeap) (a1 : GApiValue) : Option (Int) := some (H.of_ a1.Kind a1.N)
theorem xheap_Heap_Of_ok {H : GHeapHeap} {a1 : GApiValue} {r : Int} (h : xheap_Heap_Of H a1 = some r) : RI_heap_Heap_Of H a1 r := by
  cases h
  refine heap_ioR (by kernel_rfl) rfl (all_flat1 rfl) (fun w => repF_v _ _ _ rfl) fun w M own b pls ps lv vals hat hs h0 hrep => ?_
  rw [vals2 hs h0 (repF_value (hrep 0 (by simp)))]
  exact heap_Of _ _ _ _ hat
def xheap_Heap_Cells (H : GHeapHeap)  : Option (Int) := some (H.cells)
theorem xheap_Heap_Cells_ok {H : GHeapHeap}  {r : Int} (h : xheap_Heap_Cells H  = some r) : RI_heap_Heap_Cells H  r := by
  cases h
  refine heap_ioR (by kernel_rfl) rfl (fun x hx => by simp at hx) (fun w => repF_v _ _ _ rfl) fun w M own b pls ps lv vals hat hs h0 hrep => ?_
  rw [vals1 hs h0 ]
  exact heap_Cells hat
def xheap_Heap_Get (H : GHeapHeap) (a1 : GApiValue) (a2 : Int) : Option (GApiValue × Int) := some (H.get a1.Kind a1.N a2)
theorem xheap_Heap_Get_ok {H : GHeapHeap} {a1 : GApiValue} {a2 : Int} {r : GApiValue × Int} (h : xheap_Heap_Get H a1 a2 = some r) : RI_heap_Heap_Get H a1 a2 r := by
  cases h
  refine heap_ioR (by kernel_rfl) rfl (all_flat2 rfl rfl) (fun w => repF_tup2 (repF_value_mk _ _ _) (repF_v _ _ _ rfl)) fun w M own b pls ps lv vals hat hs h0 hrep => ?_
  rw [vals3 hs h0 (repF_value (hrep 0 (by simp))) (rep_val (hrep 1 (by simp)))]
  exact heap_Get _ _ _ _ _ hat
def xheap_Heap_Str (H : GHeapHeap) (a1 : List UInt8) : Option (GApiValue × Bool × GHeapHeap) := if a1.length < 4611686018427387904 then some (H.str a1) else none
theorem xheap_Heap_Str_ok {H : GHeapHeap} {a1 : List UInt8} {r : GApiValue × Bool × GHeapHeap} (h : xheap_Heap_Str H a1 = some r) : RI_heap_Heap_Str H a1 r := by
  unfold xheap_Heap_Str at h
  split at h
  · rename_i hl
    cases h
    refine heap_io2 (by kernel_rfl) rfl (all_flat1 rfl) (fun w => repF_tup2 (repF_value_mk _ _ _) (repF_v _ _ _ rfl)) fun w M own b pls ps lv vals hat h1 h2 h3 hs h0 hrep => ?_
    rw [vals2 hs h0 (rep_val (hrep 0 (by simp)))]
    exact heap_Str a1 hat h1 h2 h3 hl
  · cases h
def xheap_Heap_Rec (H : GHeapHeap) (a1 : Int) (a2 : List GApiValue) : Option (GApiValue × Bool × GHeapHeap) := if a2.length ≤ 4000000000000 then some (H.rec_ a1 a2) else none
theorem xheap_Heap_Rec_ok {H : GHeapHeap} {a1 : Int} {a2 : List GApiValue} {r : GApiValue × Bool × GHeapHeap} (h : xheap_Heap_Rec H a1 a2 = some r) : RI_heap_Heap_Rec H a1 a2 r := by
  unfold xheap_Heap_Rec at h
  split at h
  · rename_i hl
    cases h
    refine heap_io2 (by kernel_rfl) rfl (all_flat2 rfl rfl) (fun w => repF_tup2 (repF_value_mk _ _ _) (repF_v _ _ _ rfl)) fun w M own b pls ps lv vals hat h1 h2 h3 hs h0 hrep => ?_
    rw [vals3 hs h0 (rep_val (hrep 0 (by simp))) rfl]
    exact heap_Rec a1 a2 _ (valsR_repT (hrep 1 (by simp))) hat h1 h2 h3 hl
  · cases h
def xheap_Heap_List (H : GHeapHeap) (a1 a2 : Int) (a3 : GApiValue) : Option (GApiValue × Bool × GHeapHeap) := some (H.list_ a1 a2 a3)
theorem xheap_Heap_List_ok {H : GHeapHeap} {a1 a2 : Int} {a3 : GApiValue} {r : GApiValue × Bool × GHeapHeap} (h : xheap_Heap_List H a1 a2 a3 = some r) : RI_heap_Heap_List H a1 a2 a3 r := by
  cases h
  refine heap_io2 (by kernel_rfl) rfl (all_flat3 rfl rfl rfl) (fun w => repF_tup2 (repF_value_mk _ _ _) (repF_v _ _ _ rfl)) fun w M own b pls ps lv vals hat h1 h2 h3 hs h0 hrep => ?_
  rw [vals4 hs h0 (rep_val (hrep 0 (by simp))) (rep_val (hrep 1 (by simp))) (repF_value (hrep 2 (by simp)))]
  exact heap_List a1 a2 a3 hat h1 h2 h3
def putOk (o : GApiObj) : Prop := o.Vals.length ≤ 65536 ∧ (o.Kind = 3 ∨ o.Text = [])
instance (o : GApiObj) : Decidable (putOk o) := by unfold putOk; infer_instance
def xheap_Heap_Put (H : GHeapHeap) (a1 : GApiValue) (a2 : Int) (a3 : GApiValue) : Option (Int × GHeapHeap) := if ∀ o ∈ H.l, putOk o then some (H.put a1.Kind a1.N a2 a3) else none
theorem heap_Put {H : GHeapHeap} {M own : Nat → Prop} {b : Nat} {pls : List OPl} {ps : List Value} {lv : Value} {w : World} (kd n re im i : Int) (x : GApiValue) (h : HeapAt H w M own b pls ps lv) (hMb : M b) (hMo : ∀ k, own k → M k) (hok : ∀ o ∈ H.l, putOk o) :
    Calls Try.prog 19 #[.pointer (some ⟨b, 0, none⟩), .agg #[.int .u8 kd, .int .i64 n, .int .i64 re, .int .i64 im], .int .i64 i, .agg #[.int .u8 x.Kind, .int .i64 x.N, .int .i64 x.Re, .int .i64 x.Im]] w fun e w' =>
      e = .returned (.int .u8 (H.put kd n i x).1) ∧ HeapOut (H.put kd n i x).2 M own b w w' := by
  by_cases hno : ∀ o, H.at_ kd n = some o → kd = 3 ∨ i < 0 ∨ (o.Vals.length : Int) ≤ i
  · exact (heap_PutNo kd n re im i x h hno).mono fun e w' ⟨h1, h2, h3⟩ => ⟨h1, by rw [h2]; exact HeapOut.refl h h3 hMo⟩
  · cases hn : H.at_ kd n with
    | none => exact absurd (fun o ho => by rw [hn] at ho; cases ho) hno
    | some o =>
      have hc : ¬ (kd = 3 ∨ i < 0 ∨ (o.Vals.length : Int) ≤ i) := fun hc => hno fun o' ho' => by rw [hn] at ho'; cases ho'; exact hc
      obtain ⟨idx, h1, rfl, ho, hk⟩ := at_some hn
      obtain ⟨j, rfl⟩ : ∃ j : Nat, i = j := ⟨i.toNat, by omega⟩
      have hj : j < o.Vals.length := by omega
      have c1 : kd ≠ 3 := fun e => hc (.inl e)
      have h2 : idx < ps.length := by rw [h.n2]; exact h1
      have h3 : idx < pls.length := by rw [h.n1]; exact h1
      have e1 : H.put kd ((idx : Int) + 1) j x = (0, ⟨H.room, H.cells, H.l.set idx { o with Vals := o.Vals.set j x }⟩) := by
        unfold GHeapHeap.put
        rw [hn]
        simp only
        rw [if_neg c1, if_neg (by omega)]
        simp
      rw [e1]
      have hob := h.objs idx h1 h2 h3
      obtain ⟨p1, p2⟩ := hok o (ho ▸ List.getElem_mem h1)
      cases hq : pls[idx] with
      | shared =>
        rw [hq, ho] at hob
        obtain ⟨pb, off, v, hp, _⟩ := shared_cells hob
        exact heap_PutShared kd _ re im j x h hMb hMo hn rfl h1 h2 h3 ho hp hq hj c1 p1 (p2.resolve_left (fun e => c1 (hk ▸ e)))
      | own pb g =>
        rw [hq, ho] at hob
        obtain ⟨hp, v, hb, hv⟩ := hob
        cases g with
        | none => obtain ⟨e, _⟩ := hv; rw [e] at hj; simp at hj
        | some q =>
          obtain ⟨va, vc, rfl⟩ := owns_slice hv.1
          have hva : va = some ⟨q, 0, none⟩ := by
            rcases hv.1.2 with ⟨e1, e2⟩ | ⟨g', cap, cur, e, _⟩
            · exact absurd (show o.Vals.length = 0 by first | exact e1 | exact e2) (by omega)
            · have h9 := hv.2
              cases e
              simp [Value.ownBlock] at h9
              rw [h9]
          subst hva
          exact heap_PutOwn kd _ re im j x h hMo hn rfl h1 h2 h3 ho hp hq hj c1 hb hv.1
theorem xheap_Heap_Put_ok {H : GHeapHeap} {a1 : GApiValue} {a2 : Int} {a3 : GApiValue} {r : Int × GHeapHeap} (h : xheap_Heap_Put H a1 a2 a3 = some r) : RI_heap_Heap_Put H a1 a2 a3 r := by
  unfold xheap_Heap_Put at h
  split at h
  · rename_i hl
    cases h
    refine heap_io2 (by kernel_rfl) rfl (all_flat3 rfl rfl rfl) (fun w => repF_v _ _ _ rfl) fun w M own b pls ps lv vals hat h1 h2 h3 hs h0 hrep => ?_
    rw [vals4 hs h0 (repF_value (hrep 0 (by simp))) (rep_val (hrep 1 (by simp))) (repF_value (hrep 2 (by simp)))]
    exact heap_Put _ _ _ _ _ _ hat h2 h3 hl
  · cases h
end Go.Proofs.Ytblikpgdepjhdaa
