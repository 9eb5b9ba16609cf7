/- Parts of the proof. -/
import Derived.Test.YtblikpgdepjhdaaHbHpPut2
namespace Go.Proofs.Ytblikpgdepjhdaa
open Go.RowKit
set_option linter.unusedVariables false
def set4 (w : World) (q j : Nat) (x : GApiValue) : World := (((w.setCell ⟨q, j * 4, none⟩ (.int .u8 x.Kind)).setCell ⟨q, j * 4 + 1, none⟩ (.int .i64 x.N)).setCell ⟨q, j * 4 + 2, none⟩ (.int .i64 x.Re)).setCell ⟨q, j * 4 + 3, none⟩ (.int .i64 x.Im)
theorem set4_other (w : World) (q j : Nat) (x : GApiValue) {k : Nat} (h : k ≠ q) : (set4 w q j x).heap[k]? = w.heap[k]? := by
  unfold set4
  rw [Below.heap_setCell _ _ _ _ h, Below.heap_setCell _ _ _ _ h, Below.heap_setCell _ _ _ _ h, Below.heap_setCell _ _ _ _ h]
theorem set4_size (w : World) (q j : Nat) (x : GApiValue) : (set4 w q j x).heap.size = w.heap.size := by simp [set4, World.size_setCell]
theorem set4_mod (w : World) (q j : Nat) (x : GApiValue) : Mod (fun k => k = q) w (set4 w q j x) := ⟨rfl, rfl, rfl, by rw [set4_size]; exact Nat.le_refl _, fun k _ h => set4_other w q j x h⟩
theorem HeapAt.bs_own {H : GHeapHeap} {w : World} {M own : Nat → Prop} {b : Nat} {pls : List OPl} {ps : List Value} {lv : Value} (h : HeapAt H w M own b pls ps lv) {i : Nat} (hi : i < pls.length) {k : Nat} (hk : k ∈ pls[i].bs) : own k ∧ k ≠ b ∧ lv.ownBlock ≠ some k := by
  have hm : k ∈ pls.flatMap OPl.bs := List.mem_flatMap.2 ⟨_, List.getElem_mem hi, hk⟩
  have hn := List.nodup_cons.1 h.nodup
  refine ⟨(h.owns k).2 (List.mem_append.2 (.inr hm)), fun e => hn.1 (e ▸ List.mem_append.2 (.inr hm)), fun e => ?_⟩
  exact (List.nodup_append.1 hn.2).2.2 k (by simp [e]) k hm rfl
theorem nodup_flat {α β : Type} (f : α → List β) : ∀ (l : List α), (l.flatMap f).Nodup → ∀ i j (hi : i < l.length) (hj : j < l.length), i ≠ j → ∀ x ∈ f l[i], x ∉ f l[j]
  | a :: l, h, i, j, hi, hj, hne, x, hx, hy => by
    rw [List.flatMap_cons] at h
    obtain ⟨_, h2, h3⟩ := List.nodup_append.1 h
    cases i with
    | zero =>
      cases j with
      | zero => exact hne rfl
      | succ j => exact h3 x hx x (List.mem_flatMap.2 ⟨_, List.getElem_mem (by simpa using hj), hy⟩) rfl
    | succ i =>
      cases j with
      | zero => exact h3 x hy x (List.mem_flatMap.2 ⟨_, List.getElem_mem (by simpa using hi), hx⟩) rfl
      | succ j => exact nodup_flat f l h2 i j (by simpa using hi) (by simpa using hj) (by omega) x hx hy
theorem HeapAt.bs_apart {H : GHeapHeap} {w : World} {M own : Nat → Prop} {b : Nat} {pls : List OPl} {ps : List Value} {lv : Value} (h : HeapAt H w M own b pls ps lv) {i j : Nat} (hi : i < pls.length) (hj : j < pls.length) (hne : i ≠ j) {k : Nat} (hk : k ∈ pls[i].bs) : k ∉ pls[j].bs :=
  nodup_flat OPl.bs pls (List.nodup_append.1 (List.nodup_cons.1 h.nodup).2).2.1 i j hi hj hne k hk
theorem put_own {H : GHeapHeap} {w : World} {M own : Nat → Prop} {b : Nat} {pls : List OPl} {ps : List Value} {lv : Value} (h : HeapAt H w M own b pls ps lv) (hMo : ∀ k, own k → M k) {i j q pb vc : Nat} {o : GApiObj} (x : GApiValue)
    (h1 : i < H.l.length) (h2 : i < ps.length) (h3 : i < pls.length) (ho : H.l[i] = o) (hp : ps[i] = .pointer (some ⟨pb, 0, none⟩)) (hq : pls[i] = .own pb (some q)) (hj : j < o.Vals.length)
    (hb : Has w pb (objCells o (.slice (some ⟨q, 0, none⟩) o.Vals.length vc)) 75) (hv : w.ownsRow 0 46 4 (.slice (some ⟨q, 0, none⟩) o.Vals.length vc) o.Vals.length (vrow o.Vals)) :
    HeapAt ⟨H.room, H.cells, H.l.set i { o with Vals := o.Vals.set j x }⟩ (set4 w q j x) M own b pls ps lv := by
  have hqm : q ∈ pls[i].bs := by rw [hq]; simp [OPl.bs]
  have hpm : pb ∈ pls[i].bs := by rw [hq]; simp [OPl.bs]
  obtain ⟨q1, q2, q3⟩ := h.bs_own h3 hqm
  have hpq : pb ≠ q := by
    have hf := (List.nodup_append.1 (List.nodup_cons.1 h.nodup).2).2.1
    have : (pls[i].bs).Nodup := List.Sublist.nodup (by
      have e := List.getElem_mem h3
      exact List.sublist_flatten_of_mem (List.mem_map.2 ⟨_, e, rfl⟩) |>.trans (by rw [List.flatMap_def]; exact List.Sublist.refl _)) hf
    rw [hq] at this
    simp [OPl.bs] at this
    exact this
  have hE : Ext M w (set4 w q j x) := ⟨by rw [set4_size]; exact Nat.le_refl _, fun k _ hM => set4_other w q j x fun e => hM (e ▸ hMo q q1)⟩
  refine ⟨by simpa using h.wf, by simpa using h.n1, by simpa using h.n2, (set4_other w q j x (fun e => q2 e.symm)).trans h.head, ownsRow_eq h.row fun g hg => set4_other w q j x fun e => q3 (e ▸ hg), ?_, h.nodup, h.owns⟩
  intro i' a1 a2 a3
  by_cases e : i' = i
  · subst e
    have e1 : (H.l.set i' { o with Vals := o.Vals.set j x })[i'] = { o with Vals := o.Vals.set j x } := List.getElem_set_self _
    simp only [e1, hp, hq]
    refine ⟨rfl, .slice (some ⟨q, 0, none⟩) o.Vals.length vc, (set4_other w q j x hpq).trans hb, ?_, rfl⟩
    have := ownsRow_set hv rfl j x hj
    simp only [List.length_set]
    exact this
  · have e1 : (H.l.set i { o with Vals := o.Vals.set j x })[i'] = H.l[i']'(by simpa using a1) := List.getElem_set_ne (fun e' => e e'.symm) _
    simp only [e1]
    exact objAt_eq (h.objs i' (by simpa using a1) a2 a3) hE (fun _ _ h => h) fun k hk => set4_other w q j x fun e2 => h.bs_apart h3 a3 (fun e' => e e'.symm) hqm (e2 ▸ hk)
end Go.Proofs.Ytblikpgdepjhdaa
