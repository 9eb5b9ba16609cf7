/- Parts of the proof. -/
import Derived.Test.YtblikpgdepjhdaaHbHpPut4
namespace Go.Proofs.Ytblikpgdepjhdaa
open Go.RowKit
set_option linter.unusedVariables false
theorem set_flat {α β : Type} (f : α → List β) (l : List α) (i : Nat) (a : α) (hi : i < l.length) (h0 : f l[i] = []) : List.Perm ((l.set i a).flatMap f) (f a ++ l.flatMap f) := by
  induction l generalizing i with
  | nil => simp at hi
  | cons x l ih =>
    cases i with
    | zero =>
      simp only [List.getElem_cons_zero] at h0
      simp [List.flatMap_cons, h0]
    | succ i =>
      have := ih i (by simpa using hi) (by simpa using h0)
      simp only [List.set_cons_succ, List.flatMap_cons]
      refine (List.Perm.append_left _ this).trans ?_
      rw [← List.append_assoc, ← List.append_assoc]
      exact List.Perm.append_right _ List.perm_append_comm
theorem swap_own {H : GHeapHeap} {w w' : World} {M own : Nat → Prop} {b : Nat} {pls : List OPl} {ps : List Value} {lv : Value} (h : HeapAt H w M own b pls ps lv) (hMb : M b) (hMo : ∀ k, own k → M k) {i p g : Nat} {v' : Value}
    (h1 : i < H.l.length) (h2 : i < ps.length) (h3 : i < pls.length) (hq : pls[i] = .shared) (hp : w.heap.size ≤ p) (hg : w.heap.size ≤ g) (hpg : p ≠ g)
    (hob : Has w' p (objCells H.l[i] v') 75) (hv : valsAt w' v' H.l[i].Vals (some g)) (hrow : w'.ownsRow 0 73 1 lv ps.length (ps.set i (.pointer (some ⟨p, 0, none⟩)))) (hm : Mod (fun k => lv.ownBlock = some k) w w') :
    HeapAt H w' (fun k => M k ∨ w.heap.size ≤ k) (fun k => own k ∨ k = p ∨ k = g) b (pls.set i (.own p (some g))) (ps.set i (.pointer (some ⟨p, 0, none⟩))) lv := by
  have hlv : ∀ k, lv.ownBlock = some k → own k := fun k hk => (h.owns k).2 (List.mem_append.2 (.inl (by simp [hk])))
  have hbl := has_lt h.head
  have hbn := (List.nodup_cons.1 h.nodup).1
  have hnl : ∀ k, lv.ownBlock = some k → k ≠ b := fun k hk e => hbn (e ▸ List.mem_append.2 (.inl (by simp [hk])))
  have hE : Ext M w w' := ⟨hm.size, fun k hk hM => hm.block k hk fun e => hM (hMo k (hlv k e))⟩
  have hperm : List.Perm ((pls.set i (.own p (some g))).flatMap OPl.bs) (p :: g :: pls.flatMap OPl.bs) := set_flat OPl.bs pls i _ h3 (by rw [hq]; rfl)
  have hperm2 : List.Perm (lv.ownBlock.toList ++ (pls.set i (.own p (some g))).flatMap OPl.bs) (p :: g :: (lv.ownBlock.toList ++ pls.flatMap OPl.bs)) := by
    refine (List.Perm.append_left _ hperm).trans ?_
    exact (List.perm_append_comm_assoc (lv.ownBlock.toList) [p, g] (pls.flatMap OPl.bs))
  have hin : ∀ k, k ∈ lv.ownBlock.toList ++ pls.flatMap OPl.bs → k < w.heap.size := fun k hk => h.lt ((h.owns k).2 hk)
  refine ⟨h.wf, by simpa using h.n1, by simpa using h.n2, (hm.block b hbl fun e => hnl b e rfl).trans h.head, by rw [List.length_set]; exact hrow, ?_, ?_, fun k => ?_⟩
  · intro i' a1 a2 a3
    by_cases e : i' = i
    · subst e
      simp only [List.getElem_set_self]
      exact ⟨rfl, v', hob, hv⟩
    · simp only [List.getElem_set_ne (fun e' => e e'.symm)]
      have a3' : i' < pls.length := by simpa using a3
      refine objAt_eq (h.objs i' a1 (by simpa using a2) a3') hE (fun k hk hM => hM.elim id fun x => by omega) fun k hk => hm.block k (h.lt (h.bs_own a3' hk).1) fun e2 => (h.bs_own a3' hk).2.2 e2
  · rw [(List.Perm.cons b hperm2).nodup_iff]
    refine List.nodup_cons.2 ⟨fun hx => ?_, List.nodup_cons.2 ⟨fun hx => ?_, List.nodup_cons.2 ⟨fun hx => ?_, (List.nodup_cons.1 h.nodup).2⟩⟩⟩
    · rcases List.mem_cons.1 hx with hx | hx
      · omega
      · rcases List.mem_cons.1 hx with hx | hx
        · omega
        · exact hbn hx
    · rcases List.mem_cons.1 hx with hx | hx
      · exact hpg hx
      · have := hin p hx; omega
    · have := hin g hx; omega
  · rw [hperm2.mem_iff, List.mem_cons, List.mem_cons, ← h.owns k]
    constructor
    · rintro (h | h | h)
      · exact .inr (.inr h)
      · exact .inl h
      · exact .inr (.inl h)
    · rintro (h | h | h)
      · exact .inr (.inl h)
      · exact .inr (.inr h)
      · exact .inl h
theorem shared_cells {w : World} {M : Nat → Prop} {o : GApiObj} {p : Value} (h : objAt w M o p .shared) : ∃ b off v, p = .pointer (some ⟨b, off, none⟩) ∧ b < w.heap.size ∧ w.cell? ⟨b, off, none⟩ = some (.int .u8 o.Kind) ∧ w.cell? ⟨b, off + 1, none⟩ = some (.int .i64 o.Of) ∧
    w.cell? ⟨b, off + 2, none⟩ = some (.string (mkS o.Text)) ∧ w.cell? ⟨b, off + 3, none⟩ = some v ∧ w.cell? ⟨b, off + 4, none⟩ = some (.bool true) ∧ ValsR w v o.Vals := by
  obtain ⟨h, _⟩ := h
  cases h with
  | fp cells b off c hb hM hc hr =>
    have e0 : c 0 = .int .u8 o.Kind := by have := hr 0 (by simp [c_GHeapObject]); simp only [c_GHeapObject] at this; exact repT_v this
    have e1 : c 1 = .int .i64 o.Of := by have := hr 1 (by simp [c_GHeapObject]); simp only [c_GHeapObject] at this; exact repT_v this
    have e2 : c 2 = .string (mkS o.Text) := by have := hr 2 (by simp [c_GHeapObject]); simp only [c_GHeapObject] at this; exact repT_v this
    have e4 : c 4 = .bool true := by have := hr 4 (by simp [c_GHeapObject]); simp only [c_GHeapObject] at this; exact repT_v this
    exact ⟨b, off, c 3, rfl, hb, e0 ▸ hc 0 (by simp [c_GHeapObject]), e1 ▸ hc 1 (by simp [c_GHeapObject]), e2 ▸ hc 2 (by simp [c_GHeapObject]), hc 3 (by simp [c_GHeapObject]), e4 ▸ hc 4 (by simp [c_GHeapObject]), valsR_t (hr 3 (by simp [c_GHeapObject]))⟩
end Go.Proofs.Ytblikpgdepjhdaa
