/- Parts of the proof. -/
import Derived.Test.YtmffhifkdbfbfaaBiOpBin
namespace Go.Proofs.Ytmffhifkdbfbfaa
open Go.RowKit
set_option linter.unusedVariables false
set_option maxHeartbeats 2000000
theorem loaded_spec (room : Int) (l : List GApiObj) (hl : l.length ≤ 140737488351232) (ho : ∀ o ∈ l, bigO o) : ∃ r, hindcastlaw13_loaded room l = some r ∧ ((r.1 = none ∧ r.2.2 = false) ∨ ∃ H, HInv H ∧ r = (some H, wr H, true)) := by
  obtain ⟨m0, hm0⟩ := load_total room l hl ho
  unfold hindcastlaw13_loaded
  rw [hm0, obind_some]
  by_cases c : m0.2 = 0
  · rw [if_pos c]
    obtain ⟨b, hb, hf⟩ := greatO l hl ho
    rw [hb, obind_some]
    cases b with
    | true => exact ⟨_, rfl, .inl ⟨rfl, rfl⟩⟩
    | false =>
      obtain ⟨f1, f2⟩ := hf rfl
      obtain ⟨x1, m, x2, x3⟩ := load_same room l (by omega) (fun o h => ⟨by have := (f2 o h).1; omega, by have := (f2 o h).2; omega⟩)
      rw [if_neg (by decide), x1, obind_some]
      rw [hm0] at x2
      have e := Option.some.inj x2
      rcases x3 with ⟨H, y1, y2, y3, y4, _⟩ | ⟨y1, y2, _⟩
      · rw [y1]
        refine ⟨_, rfl, .inr ⟨H, y4, ?_⟩⟩
        rw [e, y3]; rfl
      · exact absurd (by rw [e] at c; exact c) y2
  · rw [if_neg c]; exact ⟨_, rfl, .inl ⟨rfl, rfl⟩⟩
theorem cellsO (H : GHeapHeap) : xheap_Heap_Cells H = some H.cells := rfl
theorem operBin_all (room : Int) (l : List GApiObj) (op : Int) (a b : GApiValue) (h0 : okI .i64 room) (h1 : l.length ≤ 140737488351232 ∧ ∀ x ∈ l, ok_GApiObj x) (h2 : okI .i64 op) (h3 : ok_GApiValue a) (h4 : ok_GApiValue b) : hindcastlaw13_OperBin room l op a b = some true := by
  have hj : hindcastlaw13_OperBin_j0 = some true := by unfold hindcastlaw13_OperBin_j0; rw [awake13]; rfl
  obtain ⟨r, hr, hc⟩ := loaded_spec room l h1.1 fun o ho => obj_big (h1.2 o ho)
  unfold hindcastlaw13_OperBin
  rw [hr, obind_some]
  rcases hc with ⟨e1, e2⟩ | ⟨H, hH, rfl⟩
  · rw [e1, e2, hj]; rfl
  · simp only [optCase, if_true]
    obtain ⟨v, t, ok, H', b1, b2, b3, b4⟩ := bin_spec hH op a b (okI_i64 h3.2.1) (okI_i64 h4.2.1)
    rw [b1, obind_some, b2, obind_some]
    simp only
    have ht : w64 t = t := by rcases b4 with rfl | rfl | rfl <;> decide
    have hs : hindcastref11_Same H'.l (wr H').H.L = some true := same_self b3
    have cw : (wr H').H.Cells = H'.cells := rfl
    simp [ht, cellsO, allO b3, hs, awake13, cw]
end Go.Proofs.Ytmffhifkdbfbfaa
