/- Parts of the proof. -/
import Derived.Test.YtblikpgdepjhdaaHbHpPu3
namespace Go.Proofs.Ytblikpgdepjhdaa
open Go.RowKit
set_option linter.unusedVariables false
set_option maxHeartbeats 4000000
set_option maxRecDepth 100000
theorem ocells_set : ∀ (l : List GApiObj) (n : Nat) (o : GApiObj) (vs : List Value) (hn : n < l.length), o.Kind = l[n].Kind → o.Of = l[n].Of → o.Text = l[n].Text → ocells (l.set n o) vs = ocells l vs
  | a :: l, 0, o, [], _, _, _, _ => rfl
  | a :: l, 0, o, v :: vs, _, h1, h2, h3 => by
    simp only [List.getElem_cons_zero] at h1 h2 h3
    simp only [List.set_cons_zero, ocells, ocell, h1, h2, h3]
  | a :: l, n + 1, o, [], _, _, _, _ => rfl
  | a :: l, n + 1, o, v :: vs, hn, h1, h2, h3 => by
    simp only [List.set_cons_succ, ocells]
    rw [ocells_set l n o vs (by simpa using hn) (by simpa using h1) (by simpa using h2) (by simpa using h3)]
  | [], _, _, _, hn, _, _, _ => by simp at hn
theorem valsAt_empty {w : World} {v : Value} {l : List GApiValue} {g : Option Nat} (h : valsAt w v l g) (hl : l = []) : ∀ w', valsAt w' v l none := fun w' => by
  subst hl
  cases g with
  | none => exact h
  | some g =>
    rcases h.1.2 with ⟨e1, e2⟩ | ⟨q, cap, cur, e, h3, h4, h5, h6, h7⟩
    · have e2 : v = .slice none 0 0 := by first | exact e1 | exact e2
      exact ⟨rfl, none, 0, Nat.zero_le _, e2⟩
    · exact ⟨rfl, _, cap, h6, e⟩
theorem valsAt_form {w : World} {v : Value} {l : List GApiValue} {q : Nat} (h : valsAt w v l (some q)) : ∃ c, v = .slice (some ⟨q, 0, none⟩) l.length c := by
  rcases h.1.2 with ⟨e1, e2⟩ | ⟨q', cap, cur, e, h3, h4, h5, h6, h7⟩
  · have e2 : v = .slice none 0 0 := by first | exact e1 | exact e2
    have := h.2
    rw [e2] at this
    simp [Value.ownBlock] at this
  · have := h.2
    rw [e] at this
    simp [Value.ownBlock] at this
    subst this
    exact ⟨cap, e⟩
theorem allR_set {l : List GApiObj} {w wr : World} {vs : List Value} {a : Option Addr} {c n j : Nat} {x : GApiValue} (hn : n < l.length) (hj : j < l[n].Vals.length) (A : AllR (l.set n ⟨l[n].Kind, l[n].Of, l[n].Text, l[n].Vals.set j x⟩) w wr l.length vs (.slice a l.length c)) (hvn : n < vs.length) :
    ∃ q cc, vs[n] = .slice (some ⟨q, 0, none⟩) l[n].Vals.length cc ∧ valsAt wr vs[n] (l[n].Vals.set j x) (some q) ∧ AllR l w (set4 wr q j l[n].Vals[j]) l.length vs (.slice a l.length c) := by
  obtain ⟨g, g1, g2⟩ := A.vals n hvn (by simpa using hn)
  rw [List.getElem_set_self] at g1
  simp only at g1
  cases g with
  | none =>
    have := congrArg List.length g1.1
    simp at this
    rw [this] at hj
    exact absurd hj (by simp)
  | some q =>
    obtain ⟨cc, hq⟩ := valsAt_form g1
    rw [List.length_set] at hq
    obtain ⟨q1, q2⟩ := g2 q rfl
    refine ⟨q, cc, hq, g1, ?_⟩
    have hmod := set4_mod wr q j l[n].Vals[j]
    refine ⟨A.below.trans (hmod.below _ (fun k hk e => by omega) A.below.size), ?_, A.len, fun i hi hi' => ?_, A.apart⟩
    · have ho := A.own
      rw [List.take_of_length_le (by simp), ocells_set l n ⟨l[n].Kind, l[n].Of, l[n].Text, l[n].Vals.set j x⟩ vs hn rfl rfl rfl] at ho
      rw [List.take_of_length_le (Nat.le_refl _)]
      exact ownsRow_eq ho fun k hk => set4_other _ _ _ _ fun e => q2 (by rw [hk, e])
    · by_cases hin : i = n
      · subst hin
        refine ⟨some q, ?_, g2⟩
        have h1 := g1.1
        rw [hq, List.length_set] at h1
        have h2 := ownsRow_set h1 (by simp) j l[i].Vals[j] hj
        rw [List.set_set, List.set_getElem_self] at h2
        refine ⟨?_, g1.2⟩
        rw [hq]
        exact h2
      · obtain ⟨g', r1, r2⟩ := A.vals i hi (by simpa using hi')
        rw [List.getElem_set_ne (fun e => hin e.symm)] at r1
        by_cases hem : l[i].Vals = []
        · exact ⟨none, valsAt_empty r1 hem _, fun q hq => by cases hq⟩
        · refine ⟨g', valsAt_eq r1 fun k hk => set4_other _ _ _ _ fun e => ?_, r2⟩
          subst e
          subst hk
          obtain ⟨c', hf⟩ := valsAt_form r1
          have h0 : l[i].Vals.length ≠ 0 := fun e => hem (List.eq_nil_of_length_eq_zero e)
          rcases Nat.lt_or_gt_of_ne hin with h | h
          · exact A.apart i n k _ _ _ _ hi hvn h hf hq h0 (by omega)
          · exact A.apart n i k _ _ _ _ hvn hi h hq hf (by omega) h0
theorem allR_at {l : List GApiObj} {o : GApiObj} {n k : Nat} {w wr : World} {vs : List Value} {a : Option Addr} {c : Nat} (A : AllR (l.set n o) w wr l.length vs (.slice a l.length c)) (hk : k < l.length) (hv : k < vs.length) :
    ∃ q, a = some ⟨q, 0, none⟩ ∧ w.heap.size ≤ q ∧ q < wr.heap.size ∧ ∀ w' : World, w'.heap[q]? = wr.heap[q]? → w'.cell? ⟨q, k * 4 + 3, none⟩ = some vs[k] := by
  have h : AllR (l.set n o) w wr (l.set n o).length vs (.slice a (l.set n o).length c) := by rw [List.length_set]; exact A
  exact allR_read h (by rw [List.length_set]; exact hk) hv
end Go.Proofs.Ytblikpgdepjhdaa
