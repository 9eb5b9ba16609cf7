/- Parts of the proof. -/
import Derived.Test.YtblikpgdepjhdaaHbHpRaw
import Derived.Lib.SliceRun
namespace Go.Proofs.Ytblikpgdepjhdaa
open Go.RowKit
set_option linter.unusedVariables false
set_option maxHeartbeats 1000000
set_option maxRecDepth 100000
theorem allR_rep {l : List GApiObj} {w wr : World} {vs : List Value} {v : Value} (h : AllR l w wr l.length vs v) : RepT wr (fun _ => False) (.sl 4 (l.map c_GApiObj)) v := by
  have ho := h.own
  rw [List.take_of_length_le (Nat.le_refl _)] at ho
  rcases ho.2 with hx | ⟨q, cap, cur, e, h3, h4, h5, h6, h7, h8⟩
  · have e1 : l.length = 0 := by first | exact hx.1 | exact hx.2
    have e2 : v = .slice none 0 0 := by first | exact hx.1 | exact hx.2
    have e3 : l = [] := List.eq_nil_of_length_eq_zero e1
    subst e3
    rw [e2]
    exact .nil 4 none 0 (Nat.zero_le _)
  · subst e
    have hlen : (l.map c_GApiObj).length = l.length := List.length_map _
    have hcur : ∀ n, n < l.length * 4 → (ocells l vs)[n]? = cur[n]? := fun n hn => by
      rw [← h8, List.getElem?_take_of_lt hn]; simp
    have hsome : ∀ n, n < l.length * 4 → cur[n]? = some ((ocells l vs)[n]?.getD undef) := fun n hn => by
      have : n < (ocells l vs).length := by rw [ocells_len l vs h.len.symm]; exact hn
      rw [hcur n hn, ← hcur n hn, List.getElem?_eq_getElem this]; rfl
    have R := RepT.sl (w := wr) (M := fun _ => False) 4 (l.map c_GApiObj) q 0 cap (fun i j => ((ocells l vs)[i * 4 + j]?).getD undef) (lt_of_block h4) (fun h => h) (by rw [hlen]; exact h5) h6 (fun i hi => by simp [c_GApiObj])
      (fun i hi j hj => by
        have hi' : i < l.length := by rw [← hlen]; exact hi
        rw [Nat.zero_add, cell_of_row wr q _ cur _ (0, 0) h4]
        exact hsome _ (by omega))
      (fun i hi j hj => by
        have hi' : i < l.length := by rw [← hlen]; exact hi
        have hiv : i < vs.length := by rw [h.len]; exact hi'
        simp only [List.getElem_map] at hj ⊢
        have hj4 : j < 4 := hj
        rw [ocells_get l vs h.len.symm i hi' hiv j hj4]
        match j, hj4 with
        | 0, _ => exact .v _ rfl
        | 1, _ => exact .v _ rfl
        | 2, _ => exact .v _ rfl
        | 3, _ =>
          obtain ⟨g, g1, g2⟩ := h.vals i hiv hi'
          exact repT_vals g1 fun q' _ hm => hm)
    rw [hlen] at R
    exact R
structure Turn (S : Nat → Prop) (w w' : World) : Prop where
  m : Mod S w w'
  s : w'.heap.size = w.heap.size
  c : ∀ (g : Nat) (cs : Array Value) (t : TypeId), w.heap[g]? = some (Obj.cells cs t (0, 0)) → ∃ cs', w'.heap[g]? = some (Obj.cells cs' t (0, 0)) ∧ cs'.size = cs.size
theorem Turn.refl (S : Nat → Prop) (w : World) : Turn S w w := ⟨Mod.refl S w, rfl, fun g cs t h => ⟨cs, h, rfl⟩⟩
theorem Turn.trans {S : Nat → Prop} {a b c : World} (h : Turn S a b) (k : Turn S b c) : Turn S a c :=
  ⟨h.m.trans k.m, k.s.trans h.s, fun g cs t e => by
    obtain ⟨cs1, e1, s1⟩ := h.c g cs t e
    obtain ⟨cs2, e2, s2⟩ := k.c g cs1 t e1
    exact ⟨cs2, e2, s2.trans s1⟩⟩
theorem Turn.mono {S S' : Nat → Prop} {a b : World} (h : Turn S a b) (hs : ∀ k, S k → S' k) : Turn S' a b := ⟨h.m.mono fun k _ hk => hs k hk, h.s, h.c⟩
theorem turn_cell (w : World) (b o : Nat) (v : Value) : Turn (fun k => k = b) w (w.setCell ⟨b, o, none⟩ v) := by
  refine ⟨(Mod.refl _ w).setCell _ _ (.inr rfl), World.size_setCell _ _ _, fun g cs t h => ?_⟩
  by_cases e : g = b
  · subst e
    exact ⟨_, heap_setCell_same w g o cs t v h, by simp⟩
  · exact ⟨cs, (Below.heap_setCell _ _ _ _ (by show g ≠ b; exact e)).trans h, rfl⟩
def ValsW (w : World) (v : Value) : Prop := ∃ a n c, v = .slice a n c ∧ (n = 0 ∨ ∃ (g : Nat) (cs : Array Value) (t : TypeId), a = some ⟨g, 0, none⟩ ∧ w.heap[g]? = some (Obj.cells cs t (0, 0)) ∧ n * 4 ≤ cs.size)
theorem ValsW.turn {S : Nat → Prop} {w w' : World} {v : Value} (h : ValsW w v) (t : Turn S w w') : ValsW w' v := by
  obtain ⟨a, n, c, e, h⟩ := h
  refine ⟨a, n, c, e, h.elim .inl fun ⟨g, cs, ty, e1, e2, e3⟩ => ?_⟩
  obtain ⟨cs', e4, e5⟩ := t.c g cs ty e2
  exact .inr ⟨g, cs', ty, e1, e4, by omega⟩
theorem ValsW.below {w w' : World} {v : Value} (h : ValsW w v) (hb : Below w.heap.size w w') : ValsW w' v := by
  obtain ⟨a, n, c, e, h⟩ := h
  refine ⟨a, n, c, e, h.elim .inl fun ⟨g, cs, ty, e1, e2, e3⟩ => ?_⟩
  exact .inr ⟨g, cs, ty, e1, (hb.block g (lt_of_block e2)).trans e2, e3⟩
theorem allR_read {l : List GApiObj} {w wr : World} {vs : List Value} {a : Option Addr} {c : Nat} (h : AllR l w wr l.length vs (.slice a l.length c)) {k : Nat} (hk : k < l.length) (hv : k < vs.length) :
    ∃ q, a = some ⟨q, 0, none⟩ ∧ w.heap.size ≤ q ∧ q < wr.heap.size ∧ ∀ w' : World, w'.heap[q]? = wr.heap[q]? → w'.cell? ⟨q, k * 4 + 3, none⟩ = some vs[k] := by
  have ho := h.own
  rw [List.take_of_length_le (Nat.le_refl _)] at ho
  rcases ho.2 with hx | ⟨q, cap, cur, e, h3, h4, h5, h6, h7, h8⟩
  · have e1 : l.length = 0 := by first | exact hx.1 | exact hx.2
    omega
  · cases e
    refine ⟨q, rfl, h3, lt_of_block h4, fun w' hw => ?_⟩
    rw [cell_of_row w' q _ cur _ (0, 0) (hw.trans h4)]
    have hg := ocells_get l vs h.len.symm k hk hv 3 (by omega)
    rw [← h8, List.getElem?_take_of_lt (by omega)] at hg
    simpa [ocell] using hg
theorem HeapAt.turn {H : GHeapHeap} {w w' : World} {M own S : Nat → Prop} {b : Nat} {pls : List OPl} {ps : List Value} {lv : Value} (h : HeapAt H w M own b pls ps lv) (t : Mod S w w') (hS : ∀ k, S k → M k ∧ k ≠ b ∧ ¬ own k) (ho : ∀ k, own k → k < w.heap.size) : HeapAt H w' M own b pls ps lv :=
  h.ext ⟨t.size, fun k hk hm => t.block k hk fun hs => hm (hS k hs).1⟩ (fun _ _ h => h) (t.block b (has_lt h.head) fun hs => (hS b hs).2.1 rfl) fun k hk => t.block k (ho k hk) fun hs => (hS k hs).2.2 hk
end Go.Proofs.Ytblikpgdepjhdaa
