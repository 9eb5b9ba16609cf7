/- Parts of the proof. -/
import Derived.Test.YtblikpgdepjhdaaHaHpAdd
namespace Go.Proofs.Ytblikpgdepjhdaa
open Go.RowKit
set_option linter.unusedVariables false
theorem heap_io {P : Program} {f : FuncId} {xs : List A} {H H' : GHeapHeap} {r : A} (hpl : plainFn P f = true) (hr : scal3 r = true) (hfl : ∀ a ∈ xs, flat2 a = true)
    (h : ∀ (w : World) (M own : Nat → Prop) (b : Nat) (pls : List OPl) (ps : List Value) (lv : Value) (vals : Array Value), HeapAt H w M own b pls ps lv → (∀ k, M k → k < w.heap.size) → M b → (∀ k, own k → M k) → vals.size = xs.length + 1 →
      vals.getD 0 undef = .pointer (some ⟨b, 0, none⟩) → (∀ i (hi : i < xs.length), RepF w M (xs[i]) (vals.getD (i + 1) undef)) →
      Calls P f vals w fun e w' => ∃ v own', e = .returned v ∧ RepF w' (fun _ => False) r v ∧ (∃ pls ps lv, HeapAt H' w' (fun k => M k ∨ own' k) own' b pls ps lv) ∧ Mod (fun k => k = b ∨ own k) w w' ∧ ∀ k, own' k → own k ∨ (w.heap.size ≤ k ∧ k < w'.heap.size)) :
    FnIO P f (A.ob 900 :: xs) [(900, .obj (.any (rep_GHeapHeap H)))] r [(900, .obj (.any (rep_GHeapHeap H')))] := by
  refine ⟨hpl, fun C L vals hP hpin hs hsz hrep => ?_⟩
  have hmem : (mst [(900, Blk.obj (.any (rep_GHeapHeap H)))]).mem 900 = some (.obj (.any (rep_GHeapHeap H))) := rfl
  obtain ⟨b, ob, hb, hw, pls, ps, lv, hat⟩ := (hs.mem 900 _ hmem).2
  have hM : ∀ k, Mut C (mst [(900, Blk.obj (.any (rep_GHeapHeap H)))]) L k → k < C.w0.heap.size := fun k hk => by
    rcases hk with hx | ⟨i, h1, h2⟩
    · exact hs.old k hx
    · exact (hs.out i k h1 h2).2.1
  have hMb : Mut C (mst [(900, Blk.obj (.any (rep_GHeapHeap H)))]) L b := .inr ⟨900, rfl, .inl hb⟩
  have hMo : ∀ k, (L 900).own k → Mut C (mst [(900, Blk.obj (.any (rep_GHeapHeap H)))]) L k := fun k hk => .inr ⟨900, rfl, .inr hk⟩
  have hv0 : vals.getD 0 undef = .pointer (some ⟨b, 0, none⟩) := by
    have h0 := hrep 0 (by simp)
    simp only [List.getElem_cons_zero] at h0
    generalize vals.getD 0 undef = v0 at h0
    cases h0 with
    | ob _ _ h1 hu hq => rw [hq _ hmem]; simp [Loc.ob, Od.isMap, hb]
  refine (h C.w0 _ (L 900).own b pls ps lv vals hat hM hMb hMo (by simpa using hsz) hv0 fun i hi => ?_).mono ?_
  · have := hrep (i + 1) (by simpa using hi)
    simp only [List.getElem_cons_succ] at this
    exact repF_of (hfl _ (List.getElem_mem hi)) this
  rintro e w' ⟨v, own', rfl, hrv, ⟨pls', ps', lv', hat'⟩, hmod, hown'⟩
  have key : ∀ (Hx : GHeapHeap) i, ((mst [(900, Blk.obj (.any (rep_GHeapHeap Hx)))]).mem i).isSome = true → i = 900 := fun Hx i hi => by
    by_cases e : i = 900
    · exact e
    · simp [mkSt, look, e] at hi
  have keyU : ∀ (Hx : GHeapHeap) i, (mst [(900, Blk.obj (.any (rep_GHeapHeap Hx)))]).used i = true → i = 900 := fun Hx i hi => key Hx i hi
  have hsim : SimL C (mst [(900, Blk.obj (.any (rep_GHeapHeap H')))]) (upd L 900 ⟨some b, (L 900).cap, own'⟩) noAct w' := by
    refine hs.next0 rfl rfl rfl hmod.os hmod.tape hmod.output hmod.size (fun k hk hn => hmod.block k hk fun hx => hn ⟨900, rfl, ?_⟩) (fun i hi => ?_) (fun i hi b' hb' => ?_) (fun i k hi hl => ?_) (fun i j k hi hj _ _ => by rw [key _ i hi, key _ j hj]) (fun i hi hf => ?_) (fun i b' hb' => ?_) (fun t => .inl ⟨rfl, rfl⟩)
    · rcases hx with rfl | hx
      · exact .inl hb
      · exact .inr hx
    · rw [keyU _ i hi]; rfl
    · have := keyU _ i hi
      subst this
      refine ⟨_, hmem, ?_, ?_⟩
      · cases hb'; rfl
      · rw [upd_same]; exact ⟨hb.symm, rfl⟩
    · have := key _ i hi
      subst this
      rw [upd_same] at hl
      rcases hl with hl | hl
      · exact .inr ⟨900, rfl, .inl (by rw [hb]; exact hl)⟩
      · rcases hown' k hl with h1 | h1
        · exact .inr ⟨900, rfl, .inr h1⟩
        · exact .inl h1
    · have := key _ i hi
      subst this
      cases hf
    · have := key H' i (by rw [hb']; rfl)
      subst this
      cases hb'
      refine ⟨rfl, .inr ⟨b, _, by rw [upd_same], hat'.head, ?_⟩⟩
      rw [upd_same]
      refine ⟨pls', ps', lv', hat'.ext (Ext.refl _ _) (fun k hk hm => ?_) rfl fun _ _ => rfl⟩
      rcases hm with hx | ⟨i, hi, hl⟩
      · exact .inl (.inl hx)
      · have := key _ i hi
        subst this
        rw [upd_same] at hl
        rcases hl with hl | hl
        · cases hl; exact .inl hMb
        · exact .inr hl
  exact ⟨v, _, rfl, hsim, repF_to (scal_any hr hrv)⟩
end Go.Proofs.Ytblikpgdepjhdaa
