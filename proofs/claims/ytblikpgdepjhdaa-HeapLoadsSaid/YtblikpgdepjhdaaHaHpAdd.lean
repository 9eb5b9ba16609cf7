/- Parts of the proof. -/
import Derived.Test.YtblikpgdepjhdaaHaHp
namespace Go.Proofs.Ytblikpgdepjhdaa
open Go.RowKit
set_option linter.unusedVariables false
theorem objAt_lt {w : World} {M : Nat → Prop} {o : GApiObj} {p : Value} {q : OPl} (h : objAt w M o p q) {k : Nat} (hk : k ∈ q.bs) : k < w.heap.size := by
  cases q with
  | shared => simp [OPl.bs] at hk
  | own b g =>
    obtain ⟨_, v, h2, h3⟩ := h
    simp only [OPl.bs, List.mem_cons] at hk
    rcases hk with rfl | hk
    · exact has_lt h2
    · cases g with
      | none => simp at hk
      | some g => simp at hk; subst hk; exact owns_lt h3.1 h3.2
theorem HeapAt.lt {H : GHeapHeap} {w : World} {M own : Nat → Prop} {b : Nat} {pls : List OPl} {ps : List Value} {lv : Value} (h : HeapAt H w M own b pls ps lv) {k : Nat} (hk : own k) : k < w.heap.size := by
  rcases List.mem_append.1 ((h.owns k).1 hk) with h1 | h1
  · cases hl : lv.ownBlock with
    | none => rw [hl] at h1; simp at h1
    | some g => rw [hl] at h1; simp at h1; subst h1; exact owns_lt h.row hl
  · obtain ⟨q, hq, hkq⟩ := List.mem_flatMap.1 h1
    obtain ⟨i, hi, rfl⟩ := List.getElem_of_mem hq
    exact objAt_lt (h.objs i (by rw [← h.n1]; exact hi) (by rw [h.n2, ← h.n1]; exact hi) hi) hkq
def GHeapHeap.plus (H : GHeapHeap) (o : GApiObj) : GHeapHeap := ⟨H.room, H.cells + objSize o.Kind o.Text o.Vals.length, H.l ++ [o]⟩
theorem added_heap {H : GHeapHeap} {o : GApiObj} {v : Value} {g : Option Nat} {M own : Nat → Prop} {b : Nat} {pls : List OPl} {ps : List Value} {lv : Value} {w w' : World} {p : Nat} {a' : Option Addr} {c' : Nat}
    (h : HeapAt H w M own b pls ps lv) (hv : valsAt w v o.Vals g) (ad : Added H o v b H.l.length ps lv w w' p a' c') (hk : 1 ≤ objSize o.Kind o.Text o.Vals.length) (hlt : ¬ H.room - H.cells < objSize o.Kind o.Text o.Vals.length)
    (hg : ∀ k, g = some k → k ≠ b ∧ ¬ own k ∧ k < w.heap.size ∧ M k) (hown : ∀ k, own k → M k) (hb : M b) :
    ∃ own', HeapAt (H.plus o) w' (fun k => M k ∨ own' k) own' b (pls ++ [.own p g]) (ps ++ [.pointer (some ⟨p, 0, none⟩)]) (.slice a' (H.l.length + 1) c') ∧ ∀ k, own' k → own k ∨ g = some k ∨ (w.heap.size ≤ k ∧ k < w'.heap.size) := by
  obtain ⟨f1, f2, f3, f4, f5, f6⟩ := ad
  have hlv : ∀ k, lv.ownBlock = some k → own k := fun k hk => (h.owns k).2 (List.mem_append.2 (.inl (by simp [hk])))
  have hE : Ext M w w' := ⟨f6.size, fun k hk hm => f6.block k hk (fun hs => hm (hs.elim (fun e => e ▸ hb) fun e => hown _ (hlv _ e)))⟩
  have hF : ∀ k, k ∈ pls.flatMap OPl.bs → own k := fun k hk => (h.owns k).2 (List.mem_append.2 (.inr hk))
  have hbn := (List.nodup_cons.1 h.nodup).1
  have hnd := (List.nodup_cons.1 h.nodup).2
  have hbl : b < w.heap.size := has_lt h.head
  have hrow : ∀ k, Value.ownBlock (.slice a' (H.l.length + 1) c') = some k → k ≠ b ∧ k ≠ p ∧ g ≠ some k ∧ k ∉ pls.flatMap OPl.bs ∧ (own k ∨ w.heap.size ≤ k) := fun k hk => by
    rcases f5 k hk with h1 | ⟨h1, h2⟩
    · have hko := hlv k h1
      have hlt' := h.lt hko
      refine ⟨fun e => hbn (e ▸ List.mem_append.2 (.inl (by simp [h1]))), by omega, fun e => (hg k e).2.1 hko, fun hm => ?_, .inl hko⟩
      rw [List.nodup_append] at hnd
      exact hnd.2.2 k (by simp [h1]) k hm rfl
    · exact ⟨by omega, h2, fun e => by have := (hg k e).2.2.1; omega, fun hm => by have := h.lt (hF k hm); omega, .inr h1⟩
  have hfm : (pls ++ [OPl.own p g]).flatMap OPl.bs = pls.flatMap OPl.bs ++ (p :: g.toList) := by simp [OPl.bs]
  refine ⟨fun k => k ∈ (Value.ownBlock (.slice a' (H.l.length + 1) c')).toList ++ (pls ++ [OPl.own p g]).flatMap OPl.bs, ⟨?_, ?_, ?_, ?_, ?_, ?_, ?_, fun k => Iff.rfl⟩, ?_⟩
  · obtain ⟨w1, w2, w3⟩ := h.wf
    simp only [GHeapHeap.plus, List.length_append, List.length_singleton]
    omega
  · simp [GHeapHeap.plus, h.n1]
  · simp [GHeapHeap.plus, h.n2]
  · exact f2
  · have : (ps ++ [Value.pointer (some ⟨p, 0, none⟩)]).length = H.l.length + 1 := by simp [h.n2]
    rw [this]; exact f4
  · intro i h1 h2 h3
    by_cases hi : i < H.l.length
    · have hp : i < pls.length := by rw [h.n1]; exact hi
      have hq : i < ps.length := by rw [h.n2]; exact hi
      have e1 : (H.plus o).l[i] = H.l[i] := by simp only [GHeapHeap.plus]; exact List.getElem_append_left hi
      rw [e1, List.getElem_append_left hq, List.getElem_append_left hp]
      refine objAt_eq (h.objs i hi hq hp) hE (fun k hk hm => ?_) fun k hk => ?_
      · rcases hm with hm | hm
        · exact hm
        · rcases List.mem_append.1 hm with hm | hm
          · rcases (hrow k (by simpa using hm)).2.2.2.2 with h | h
            · exact hown k h
            · omega
          · rw [hfm] at hm
            rcases List.mem_append.1 hm with hm | hm
            · exact hown k (hF k hm)
            · rcases List.mem_cons.1 hm with rfl | hm
              · omega
              · exact (hg k (by simpa using hm)).2.2.2
      · have hk' : k ∈ pls.flatMap OPl.bs := List.mem_flatMap.2 ⟨_, List.getElem_mem hp, hk⟩
        refine f6.block k (h.lt (hF k hk')) fun hs => ?_
        rcases hs with rfl | hs
        · exact hbn (List.mem_append.2 (.inr hk'))
        · rw [List.nodup_append] at hnd
          exact hnd.2.2 k (by simp [hs]) k hk' rfl
    · have e : i = H.l.length := by simp [GHeapHeap.plus] at h1; omega
      subst e
      have e1 : (H.plus o).l[H.l.length]'h1 = o := by simp [GHeapHeap.plus]
      have e2 : (ps ++ [Value.pointer (some ⟨p, 0, none⟩)])[H.l.length]'h2 = .pointer (some ⟨p, 0, none⟩) := by simp [← h.n2]
      have e3 : (pls ++ [OPl.own p g])[H.l.length]'h3 = .own p g := by simp [← h.n1]
      rw [e1, e2, e3]
      refine ⟨rfl, v, f3, valsAt_eq hv fun k hk => f6.block k (hg k hk).2.2.1 fun hs => ?_⟩
      rcases hs with hs | hs
      · exact (hg k hk).1 hs
      · exact (hg k hk).2.1 (hlv k hs)
  · rw [hfm]
    have hgp : ∀ k, g = some k → k ≠ p := fun k hk => by have := (hg k hk).2.2.1; omega
    refine List.nodup_cons.2 ⟨fun hm => ?_, ?_⟩
    · rcases List.mem_append.1 hm with hm | hm
      · exact (hrow b (by simpa using hm)).1 rfl
      · rcases List.mem_append.1 hm with hm | hm
        · exact hbn (List.mem_append.2 (.inr hm))
        · rcases List.mem_cons.1 hm with hm | hm
          · omega
          · exact (hg b (by simpa using hm)).1 rfl
    · refine List.nodup_append.2 ⟨?_, List.nodup_append.2 ⟨(List.nodup_append.1 hnd).2.1, ?_, ?_⟩, ?_⟩
      · cases Value.ownBlock (.slice a' (H.l.length + 1) c') <;> simp
      · refine List.nodup_cons.2 ⟨fun hm => hgp p (by simpa using hm) rfl, ?_⟩
        cases g <;> simp
      · intro k hk q hq e
        subst e
        have hko := hF k hk
        rcases List.mem_cons.1 hq with rfl | hq
        · have := h.lt hko; omega
        · exact (hg k (by simpa using hq)).2.1 hko
      · intro k hk q hq e
        subst e
        obtain ⟨q1, q2, q3, q4, q5⟩ := hrow k (by simpa using hk)
        rcases List.mem_append.1 hq with hq | hq
        · exact q4 hq
        · rcases List.mem_cons.1 hq with hq | hq
          · exact q2 hq
          · exact q3 (by simpa using hq)
  · intro k hk
    have hpl : p < w'.heap.size := has_lt f3
    rcases List.mem_append.1 hk with hk | hk
    · rcases (hrow k (by simpa using hk)).2.2.2.2 with h | h
      · exact .inl h
      · exact .inr (.inr ⟨h, owns_lt f4 (by simpa using hk)⟩)
    · rw [hfm] at hk
      rcases List.mem_append.1 hk with hk | hk
      · exact .inl (hF k hk)
      · rcases List.mem_cons.1 hk with rfl | hk
        · exact .inr (.inr ⟨f1, hpl⟩)
        · exact .inr (.inl (by simpa using hk))
end Go.Proofs.Ytblikpgdepjhdaa
