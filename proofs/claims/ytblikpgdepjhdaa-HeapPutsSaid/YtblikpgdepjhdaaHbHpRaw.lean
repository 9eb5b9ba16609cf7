/- Parts of the proof. -/
import Derived.Test.YtblikpgdepjhdaaHbHpLoad2
namespace Go.Proofs.Ytblikpgdepjhdaa
open Go.RowKit
set_option linter.unusedVariables false
set_option maxHeartbeats 1000000
theorem repF_of3 {st : St} {L : Nat → Loc} {w : World} {M : Nat → Prop} {x : A} {v : Value} (hf : flat3 x = true) (h : RepA st L w M x v) : RepF w M x v := by
  cases x with
  | tup cs =>
    cases h with
    | tup _ vs hs hr => exact .tup _ vs hs fun i hi => repF_of (by simp only [flat3, List.all_eq_true] at hf; exact hf _ (List.getElem_mem hi)) (hr i hi)
  | _ => exact repF_of hf h
theorem heap_call {P : Program} {f : FuncId} {xs : List A} {H H' : GHeapHeap} {r : A} (h : FnIO P f (A.ob 900 :: xs) [(900, .obj (.any (rep_GHeapHeap H)))] r [(900, .obj (.any (rep_GHeapHeap H')))]) (hfr : flat3 r = true)
    {w : World} {X own : Nat → Prop} {b : Nat} {pls : List OPl} {ps : List Value} {lv : Value} {vals : Array Value} (hat : HeapAt H w (fun k => X k ∨ k = b ∨ own k) own b pls ps lv) (hX : ∀ k, X k → k < w.heap.size) (hXb : ¬ X b) (hXo : ∀ k, own k → ¬ X k) (hol : ∀ k, own k → k < w.heap.size)
    (hs : vals.size = xs.length + 1) (hv0 : vals.getD 0 undef = .pointer (some ⟨b, 0, none⟩)) (hv : ∀ i (hi : i < xs.length), RepF w (fun k => X k ∨ k = b ∨ own k) (xs[i]) (vals.getD (i + 1) undef)) :
    Calls P f vals w fun e w' => ∃ v own', e = .returned v ∧ RepF w' (fun k => X k ∨ k = b ∨ own' k) r v ∧ (∃ pls ps lv, HeapAt H' w' (fun k => X k ∨ k = b ∨ own' k) own' b pls ps lv) ∧ Mod (fun k => k = b ∨ own k) w w' ∧ ∀ k, own' k → (k = b ∨ own k ∨ w.heap.size ≤ k) ∧ ¬ X k ∧ k < w'.heap.size := by
  let C : Ctx := ⟨P, X, fun k => k = b ∨ own k, w, fun id => if id = 900 then some b else none⟩
  let L : Nat → Loc := upd (fun _ => nol) 900 ⟨some b, 0, own⟩
  have hL : L 900 = ⟨some b, 0, own⟩ := upd_same _ _ _
  have hmem : (mst [(900, Blk.obj (.any (rep_GHeapHeap H)))]).mem 900 = some (.obj (.any (rep_GHeapHeap H))) := rfl
  have hmem' : (mst [(900, Blk.obj (.any (rep_GHeapHeap H')))]).mem 900 = some (.obj (.any (rep_GHeapHeap H'))) := rfl
  have hM : ∀ k, Mut C (mst [(900, Blk.obj (.any (rep_GHeapHeap H)))]) L k → X k ∨ k = b ∨ own k := by
    rintro k (hx | ⟨i, hi, hl⟩)
    · exact .inl hx
    · have := mst_oneS hi
      subst this
      rw [hL] at hl
      rcases hl with hl | hl
      · cases hl; exact .inr (.inl rfl)
      · exact .inr (.inr hl)
  have hpin : ∀ id c, C.pin id = some c → id = 900 ∧ c = b := fun id c hc => by
    by_cases e : id = 900
    · simp only [C, e, if_true] at hc; cases hc; exact ⟨e, rfl⟩
    · simp only [C, e, if_false] at hc; cases hc
  have hsim : SimL C (mst [(900, Blk.obj (.any (rep_GHeapHeap H)))]) L noAct w := by
    refine ⟨rfl, rfl, fun t => .dead _, fun id blk hb => ?_, fun i j c hi hj _ _ => by rw [mst_oneS hi, mst_oneS hj], fun i c hi hc => ?_, hX, rfl, rfl, rfl, Nat.le_refl _, fun _ _ _ => rfl, fun id c hc => ?_, fun id c hc _ => ?_⟩
    · obtain ⟨rfl, rfl⟩ := mst_one hb
      refine ⟨rfl, b, _, by rw [hL], hat.head, ?_⟩
      rw [hL]
      exact ⟨pls, ps, lv, hat.ext (Ext.refl _ _) (fun k _ hk => hM k hk) rfl fun _ _ => rfl⟩
    · have := mst_oneS hi
      subst this
      rw [hL] at hc
      rcases hc with hc | hc
      · cases hc; exact ⟨hXb, has_lt hat.head, .inl (.inl rfl)⟩
      · exact ⟨hXo c hc, hol c hc, .inl (.inr hc)⟩
    · obtain ⟨rfl, _⟩ := hpin id c hc; exact ⟨Nat.zero_le _, by decide⟩
    · obtain ⟨rfl, rfl⟩ := hpin id c hc; rw [hL]
  refine (h.2 C L vals rfl (fun id c hc => by rw [(hpin id c hc).1]; exact Nat.le_refl _) hsim (by rw [hs]; rfl) fun i hi => ?_).mono ?_
  · cases i with
    | zero => rw [hv0]; exact .ob 900 _ rfl rfl fun od hod => by rw [hmem] at hod; cases hod; simp [Loc.ob, Od.isMap, hL]
    | succ i =>
      have hi' : i < xs.length := by simpa using hi
      exact RepA.ext (hv i hi') (Ext.refl _ _) (fun k _ hk => hM k hk) (fun id hi => by simp at hi) (fun id hi => by simp at hi)
  rintro e w' ⟨v, L', rfl, hs', hr'⟩
  have hb9 : (L' 900).blk = some b := hs'.pin 900 b rfl rfl
  have hM' : ∀ k, (X k ∨ k = b ∨ (L' 900).own k) → Mut C (mst [(900, Blk.obj (.any (rep_GHeapHeap H')))]) L' k := by
    rintro k (hx | rfl | hx)
    · exact .inl hx
    · exact .inr ⟨900, rfl, .inl hb9⟩
    · exact .inr ⟨900, rfl, .inr hx⟩
  obtain ⟨b', ob, e1, e2, pls', ps', lv', hat'⟩ := (hs'.mem 900 _ hmem').2
  rw [hb9] at e1
  cases e1
  refine ⟨v, (L' 900).own, rfl, (repF_of3 hfr hr').ext (Ext.refl _ _) (fun k _ hk => hM' k hk) (fun id hi => hi) (fun id hi => by simp at hi), ⟨pls', ps', lv', hat'.ext (Ext.refl _ _) (fun k _ hk => hM' k hk) rfl fun _ _ => rfl⟩, ⟨hs'.os, hs'.tape, hs'.output, hs'.size, fun k hk hn => hs'.block k hk hn⟩, fun k hk => ?_⟩
  obtain ⟨o1, o2, o3⟩ := hs'.out 900 k rfl (.inr hk)
  exact ⟨o3.elim (fun h => h.elim .inl fun h => .inr (.inl h)) fun h => .inr (.inr h), o1, o2⟩
end Go.Proofs.Ytblikpgdepjhdaa
