/- Parts of the proof. -/
import Derived.Test.YtblikpgdepjhdaaHbHpOver
namespace Go.Proofs.Ytblikpgdepjhdaa
open Go.RowKit
set_option maxRecDepth 100000
set_option linter.unusedVariables false
set_option maxHeartbeats 4000000
theorem mst_none {i : Nat} {b : Blk} (h : (mst []).mem i = some b) : False := by simp [mkSt, look] at h
theorem mst_used {i : Nat} (h : (mst []).used i = true) : False := by simp [mkSt, look] at h
theorem mst_one {i j : Nat} {x b : Blk} (h : (mst [(j, x)]).mem i = some b) : i = j ∧ b = x := by
  by_cases e : i = j
  · subst e
    have : (mst [(i, x)]).mem i = some x := by simp [mkSt, look]
    rw [this] at h; cases h; exact ⟨rfl, rfl⟩
  · simp [mkSt, look, e] at h
theorem mst_oneS {i j : Nat} {x : Blk} (h : ((mst [(j, x)]).mem i).isSome = true) : i = j := by
  cases hm : (mst [(j, x)]).mem i with
  | none => rw [hm] at h; cases h
  | some b => exact (mst_one hm).1
theorem fnio_below {P : Program} {f : FuncId} {xs : List A} {r : A} {v0 : Value} (hpl : plainFn P f = true) (hr : scal3 r = true) (hfl : ∀ a ∈ xs, flat2 a = true) (hv : ∀ w, RepF w (fun _ => False) r v0)
    (h : ∀ (w : World) (X : Nat → Prop) (vals : Array Value), vals.size = xs.length → (∀ i (hi : i < xs.length), RepF w X (xs[i]) (vals.getD i undef)) → Calls P f vals w fun e w' => e = .returned v0 ∧ Below w.heap.size w w') : FnIO P f xs [] r [] := by
  refine ⟨hpl, fun C L vals hP hpin hs hsz hrep => ?_⟩
  refine (h C.w0 (Mut C (mst []) L) vals hsz fun i hi => repF_of (hfl _ (List.getElem_mem hi)) (hrep i hi)).mono ?_
  rintro e w' ⟨rfl, hb⟩
  refine ⟨v0, L, rfl, ?_, repF_to (scal_any hr (hv w'))⟩
  exact hs.next0 rfl rfl rfl hb.os hb.tape hb.output hb.size (fun k hk _ => hb.block k hk) (fun i hi => hi) (fun i hi b' hb' => (mst_none hb').elim) (fun i k hi _ => by rw [Option.isSome_iff_exists] at hi; obtain ⟨b, hb⟩ := hi; exact (mst_none hb).elim)
    (fun i j k hi _ _ _ => by rw [Option.isSome_iff_exists] at hi; obtain ⟨b, hb⟩ := hi; exact (mst_none hb).elim) (fun i hi _ => by rw [Option.isSome_iff_exists] at hi; obtain ⟨b, hb⟩ := hi; exact (mst_none hb).elim) (fun i b' hb' => (mst_none hb').elim) (fun t => .inl ⟨rfl, rfl⟩)
theorem heap_newio {P : Program} {f : FuncId} {xs : List A} {y : GHeapHeap} {er : Int} (hpl : plainFn P f = true) (hfl : ∀ a ∈ xs, flat2 a = true)
    (h : ∀ (w : World) (X : Nat → Prop) (vals : Array Value), (∀ b, X b → b < w.heap.size) → vals.size = xs.length → (∀ i (hi : i < xs.length), RepF w X (xs[i]) (vals.getD i undef)) →
      Calls P f vals w fun e w' => ∃ b own', e = .returned (.tuple #[.pointer (some ⟨b, 0, none⟩), .int .i64 er]) ∧ Below w.heap.size w w' ∧ w.heap.size ≤ b ∧ (∃ pls ps lv, HeapAt y w' (fun k => X k ∨ k = b ∨ own' k) own' b pls ps lv) ∧ ∀ k, own' k → w.heap.size ≤ k ∧ k < w'.heap.size) :
    FnIO P f xs [] (.tup [.ob 700000, aI .i64 er]) [(700000, .obj (.any (rep_GHeapHeap y)))] := by
  refine ⟨hpl, fun C L vals hP hpin hs hsz hrep => ?_⟩
  have hX : ∀ k, Mut C (mst []) L k → C.X k := fun k hk => by
    rcases hk with hx | ⟨i, h1, h2⟩
    · exact hx
    · rw [Option.isSome_iff_exists] at h1; obtain ⟨b, hb⟩ := h1; exact (mst_none hb).elim
  refine (h C.w0 (Mut C (mst []) L) vals (fun b hb => hs.old b (hX b hb)) hsz fun i hi => repF_of (hfl _ (List.getElem_mem hi)) (hrep i hi)).mono ?_
  rintro e w' ⟨b, own', rfl, hb, hbb, ⟨pls, ps, lv, hat⟩, ho⟩
  have hbl : b < w'.heap.size := has_lt hat.head
  have hmem : (mst [(700000, Blk.obj (.any (rep_GHeapHeap y)))]).mem 700000 = some (.obj (.any (rep_GHeapHeap y))) := rfl
  have hsim : SimL C (mst [(700000, .obj (.any (rep_GHeapHeap y)))]) (upd L 700000 ⟨some b, 0, own'⟩) noAct w' := by
    refine hs.next0 rfl rfl rfl hb.os hb.tape hb.output hb.size (fun k hk _ => hb.block k hk) (fun i hi => (mst_used hi).elim) (fun i hi b' hb' => (mst_used hi).elim) (fun i k hi hl => ?_) (fun i j k hi hj _ _ => by rw [mst_oneS hi, mst_oneS hj]) (fun i hi _ => .inr (by rw [mst_oneS hi]; decide)) (fun i b' hb' => ?_) (fun t => .inl ⟨rfl, rfl⟩)
    · have := mst_oneS hi
      subst this
      rw [upd_same] at hl
      rcases hl with hl | hl
      · cases hl; exact .inl ⟨hbb, hbl⟩
      · exact .inl (ho k hl)
    · obtain ⟨rfl, rfl⟩ := mst_one hb'
      refine ⟨rfl, .inr ⟨b, _, by rw [upd_same], hat.head, ?_⟩⟩
      rw [upd_same]
      refine ⟨pls, ps, lv, hat.ext (Ext.refl _ _) (fun k hk hm => ?_) rfl fun _ _ => rfl⟩
      rcases hm with hx | ⟨i, hi, hl⟩
      · exact .inl (.inl hx)
      · have := mst_oneS hi
        subst this
        rw [upd_same] at hl
        rcases hl with hl | hl
        · cases hl; exact .inr (.inl rfl)
        · exact .inr (.inr hl)
  refine ⟨_, _, rfl, hsim, .tup _ _ rfl fun i hi => ?_⟩
  match i, hi with
  | 0, _ =>
    refine .ob 700000 _ rfl rfl fun od hod => ?_
    rw [hmem] at hod
    cases hod
    simp [Loc.ob, Od.isMap, upd_same]
  | 1, _ => exact .t _ _ (.v _ rfl)
def GHeapHeap.new (c : Int) : GHeapHeap := ⟨c, 0, []⟩
theorem heapAt_new {w : World} {M : Nat → Prop} {c : Int} {b : Nat} (hc : 0 ≤ c ∧ c ≤ 65536) (hb : Has w b #[.int .i64 c, .int .i64 0, .slice none 0 0] 72) : HeapAt (GHeapHeap.new c) w M (fun _ => False) b [] [] (.slice none 0 0) :=
  ⟨⟨by simp [GHeapHeap.new], hc.1, hc.2⟩, rfl, rfl, hb, ⟨rfl, .inl (by first | exact ⟨rfl, rfl⟩ | exact ⟨rfl, trivial⟩)⟩, fun i h => by simp [GHeapHeap.new] at h, by simp [Value.ownBlock], fun k => by simp [Value.ownBlock]⟩
set_option maxHeartbeats 8000000 in set_option maxRecDepth 100000 in
theorem heap_NewBad (c : Int) (w : World) (hc : c < 0 ∨ 65536 < c) : Calls Try.prog 16 #[.int .i64 c] w fun e w' => e = .returned (.tuple #[.pointer none, .int .i64 1]) ∧ Below w.heap.size w w' := by
  by_cases c1 : c < 0
  · clear hc
    go_enter Try.func16, Try.ntmps16
    go_wp2_with fail
    go_ret2
    exact ⟨rfl, Below.refl _ _⟩
  · have hc := hc.resolve_left c1
    have c1' : decide (c < 0) = false := by simpa using c1
    go_enter Try.func16, Try.ntmps16
    go_wp2_with fail
    go_ret2
    exact ⟨rfl, Below.refl _ _⟩
set_option maxHeartbeats 8000000 in set_option maxRecDepth 100000 in
theorem heap_NewOk (c : Int) (w : World) (h0 : 0 ≤ c) (h1 : c ≤ 65536) : Calls Try.prog 16 #[.int .i64 c] w fun e w' => e = .returned (.tuple #[.pointer (some ⟨w.heap.size, 0, none⟩), .int .i64 0]) ∧ w' = w.alloc (.cells #[.int .i64 c, .int .i64 0, .slice none 0 0] 72) := by
  have c1 : decide (c < 0) = false := by simp; omega
  have c2 : decide (65536 < c) = false := by simp; omega
  go_enter Try.func16, Try.ntmps16
  go_wp2_with fail
  go_ret2
  exact ⟨rfl, rfl⟩
def xheap_New (a0 : Int) : Option (Option GHeapHeap × Int) := some (if a0 < 0 ∨ 65536 < a0 then (none, 1) else (some (GHeapHeap.new a0), 0))
theorem xheap_New_ok {a0 : Int} {r : Option GHeapHeap × Int} (h : xheap_New a0 = some r) : RI_heap_New a0 r := by
  cases h
  by_cases hc : a0 < 0 ∨ 65536 < a0
  · rw [if_pos hc]
    refine fnio_below (v0 := .tuple #[.pointer none, .int .i64 1]) (by kernel_rfl) rfl (all_flat1 rfl) (fun w => repF_tup2 (repF_v _ _ _ rfl) (repF_v _ _ _ rfl)) fun w X vals hs hrep => ?_
    rw [vals1 hs (rep_val (hrep 0 (by simp)))]
    exact heap_NewBad a0 w hc
  · rw [if_neg hc]
    refine heap_newio (by kernel_rfl) (all_flat1 rfl) fun w X vals hX hs hrep => ?_
    rw [vals1 hs (rep_val (hrep 0 (by simp)))]
    refine (heap_NewOk a0 w (by omega) (by omega)).mono ?_
    rintro e w' ⟨rfl, rfl⟩
    exact ⟨w.heap.size, fun _ => False, rfl, (Below.refl _ w).alloc (Nat.le_refl _) _, Nat.le_refl _, ⟨[], [], _, heapAt_new ⟨by omega, by omega⟩ (has_new w _ _ _ rfl)⟩, fun k hk => hk.elim⟩
end Go.Proofs.Ytblikpgdepjhdaa
