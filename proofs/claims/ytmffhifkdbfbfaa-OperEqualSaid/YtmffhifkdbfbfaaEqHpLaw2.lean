/- Parts of the proof. -/
import Derived.Test.YtmffhifkdbfbfaaEqHpLaw
namespace Go.Proofs.Ytmffhifkdbfbfaa
open Go.RowKit
set_option linter.unusedVariables false
set_option maxHeartbeats 2000000
theorem names_spec {H : GHeapHeap} (h : HInv H) (v : GApiValue) : hindcastref11_H_Names (mr H) v = some (H.at_ v.Kind v.N).isSome ∧ ∀ o, H.at_ v.Kind v.N = some o → getI (mr H).L (w64 (v.N - 1)) = some o ∧ 1 ≤ v.N ∧ o.Kind = v.Kind ∧ o ∈ H.l := by
  have hl := h.len
  have h1 := h.r1
  have h2 := h.r2
  constructor
  · unfold hindcastref11_H_Names GHeapHeap.at_
    by_cases c1 : v.N ≥ 1
    · rw [if_pos c1]
      by_cases c2 : v.N ≤ (H.l.length : Int)
      · have c2' : v.N ≤ ((mr H).L.length : Int) := c2
        have hlt : (v.N - 1).toNat < H.l.length := by omega
        have hg : getI (mr H).L (v.N - 1) = some (H.l[(v.N - 1).toNat]) := getI_at (xs := H.l) (i := v.N - 1) (by omega) (by omega)
        have hg2 : getI H.l (v.N - 1) = some (H.l[(v.N - 1).toNat]) := hg
        have hw : w64 (v.N - 1) = v.N - 1 := wrap64 (by omega) (by omega)
        rw [if_pos c2', hw, hg, obind_some, hg2, Option.bind_some]
        by_cases hk : (H.l[(v.N - 1).toNat]).Kind = v.Kind
        · rw [if_pos hk, Option.isSome_some]; exact congrArg some (decide_eq_true hk)
        · rw [if_neg hk, Option.isSome_none]; exact congrArg some (decide_eq_false hk)
      · have c2' : ¬ v.N ≤ ((mr H).L.length : Int) := c2
        rw [if_neg c2', getI_out (xs := H.l) (i := v.N - 1) (.inr (by omega))]; simp
    · rw [if_neg c1, getI_out (xs := H.l) (i := v.N - 1) (.inl (by omega))]; simp
  · intro o ho
    obtain ⟨i, hi, e1, e2, e3⟩ := at_some ho
    have hw : w64 (v.N - 1) = (i : Int) := by rw [wrap64 (by omega) (by omega)]; omega
    refine ⟨?_, by omega, e3, e2 ▸ List.getElem_mem hi⟩
    rw [hw, getI_nat' (xs := (mr H).L) hi]
    exact congrArg some e2
theorem text_spec {H : GHeapHeap} (h : HInv H) (v : GApiValue) : hindcastref11_H_Text (mr H) v = some (H.text v.Kind v.N) := by
  obtain ⟨n1, n2⟩ := names_spec h v
  unfold hindcastref11_H_Text GHeapHeap.text
  by_cases c1 : v.Kind = 3
  · rw [if_pos c1]
    by_cases c2 : v.N = 0
    · rw [if_pos c2, if_pos ⟨c1, c2⟩]
    · have c3 : ¬ (v.Kind = 3 ∧ v.N = 0) := fun e => c2 e.2
      rw [if_neg c2, if_neg c3, n1, obind_some]
      cases ho : H.at_ v.Kind v.N with
      | none => simp
      | some o =>
        rw [(n2 o ho).1]
        simp [c1]
  · have c3 : ¬ (v.Kind = 3 ∧ v.N = 0) := fun e => c1 e.1
    rw [if_neg c1, if_neg c3]
    cases ho : H.at_ v.Kind v.N with
    | none => rfl
    | some o => simp [c1]
end Go.Proofs.Ytmffhifkdbfbfaa
