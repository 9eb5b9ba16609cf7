/- Parts of the proof. -/
import Derived.Test.YtabmahknlebhpaaGreatVdVfStep2
namespace Go.Proofs.YtabmahknlebhpaaGreat
set_option linter.unusedVariables false
theorem okP_true {p : Prop} [Decidable p] (h : p) : okP p = some () := if_pos h
theorem count_set {l : List Bool} {i : Nat} (hi : i < l.length) (h : l[i] = false) : (l.set i true).count false + 1 = l.count false := by
  have hm : l[i] ∈ l := List.getElem_mem hi
  rw [h] at hm
  have := List.count_pos_iff.2 hm
  rw [List.count_set hi, h]
  simp
  omega
theorem places_len (l : List Int) : f_verify_places_Len l = some (((l.length : Int), ()), ()) := by rw [f_verify_places_Len_eq]
theorem run_rel {c : GApiCode} : ∀ (m k : Nat) (A : GVerifyFlow) (F : GR17F) (v : Int), F.Gone.count false = m → k + m ≤ 65536 → Rel k A F → FnR c F.E →
    (∃ e : Int, e ≠ 0 ∧ ∃ (at' : Int) (F' : GR17F), f_verify_run_l2 c A = some (([], e, at', ()), ()) ∧ f_r17_Run_l2 v c F = some ((F', at', ()), ()) ∧ F'.Error = e) ∨
    ∃ F' : GR17F, f_verify_run_l2 c A = some ((F'.D, 0, 0, ()), ()) ∧ f_r17_Run_l2 v c F = some ((F', 0, ()), ()) ∧ F'.Error = 0 ∧ F'.D.length = F.D.length := by
  intro m
  induction m with
  | zero =>
    intro k A F v hc hk h hfn
    rcases pop_rel h with ⟨g1, g2⟩ | ⟨i, hi, w', hpos, p1, n1, d0, g0, hrel⟩
    · rw [f_verify_run_l2_eq, f_r17_Run_l2_eq, places_len, g1, g2, decide_eq_true h.err, f_verify_run_j3_eq, h.d]
      exact .inr ⟨F, rfl, rfl, h.err, rfl⟩
    · exfalso
      have hl : i < F.Gone.length := by rw [h.gone]; exact hi
      have : false ∈ F.Gone := by
        have e : F.Gone[i] = false := by simpa [List.getD_eq_getElem?_getD, hl] using g0
        rw [← e]; exact List.getElem_mem hl
      have := List.count_pos_iff.2 this
      omega
  | succ m ih =>
    intro k A F v hc hk h hfn
    rcases pop_rel h with ⟨g1, g2⟩ | ⟨i, hi, w', hpos, p1, n1, d0, g0, hrel⟩
    · rw [f_verify_run_l2_eq, f_r17_Run_l2_eq, places_len, g1, g2, decide_eq_true h.err, f_verify_run_j3_eq, h.d]
      exact .inr ⟨F, rfl, rfl, h.err, rfl⟩
    · have hl : i < F.Gone.length := by rw [h.gone]; exact hi
      have hz : F.Gone[i] = false := by simpa [List.getD_eq_getElem?_getD, hl] using g0
      have hcs := count_set hl hz
      rw [f_verify_run_l2_eq, f_r17_Run_l2_eq, places_len, n1, decide_eq_true h.err]
      simp only [Option.bind_some, cond_true]
      rw [decide_eq_true (by omega : (A.todo_.length : Int) > 0), p1, decide_eq_false (by omega : ¬ (i : Int) < 0)]
      simp only [Option.bind_some, cond_true, cond_false]
      have herr := h.err
      obtain ⟨FE, FD, FG, Fe⟩ := F
      simp only at hi d0 herr hrel hl hz hcs hc hfn
      subst herr
      rcases step_rel hfn hi d0 hrel (by omega) with ⟨e, he, A', F', q1, q2, q3⟩ | ⟨A', F', q1, q2, q3, q4, q5, q6⟩
      · rw [q1, q2]
        simp only [Option.bind_some]
        rw [decide_eq_false he, f_r17_Run_l2_eq, decide_eq_false (by rw [q3]; exact he), f_r17_Run_j3_eq]
        exact .inl ⟨e, he, i, F', rfl, rfl, q3⟩
      · rw [q1, q2]
        simp only [Option.bind_some, decide_true, Bool.not_true, cond_false]
        rcases ih (k + 1) A' F' (i : Int) (by rw [q4]; omega) (by omega) q3 (by rw [q5]; exact hfn) with z | ⟨F2, z1, z2, z3, z4⟩
        · exact .inl z
        · exact .inr ⟨F2, z1, z2, z3, z4.trans q6⟩
theorem fill_code (c : GApiCode) (E : GApiEntry) (hE : 0 ≤ E.Len) (hE2 : E.Len ≤ 65536) : ∀ (m i : Nat) (w : List Int), E.Len.toNat - i = m → w.length = E.Len.toNat → (∀ j, j < i → w[j]? = some (-1)) → i ≤ E.Len.toNat → f_verify_run_l0 E (i : Int) c w = f_verify_run_j1 c E (List.replicate E.Len.toNat (-1)) := by
  intro m
  induction m with
  | zero =>
    intro i w hm hw hj hi
    rw [f_verify_run_l0_eq, List.length_replicate, decide_eq_false (by omega)]
    have : w = List.replicate E.Len.toNat (-1) := by
      apply List.ext_getElem?
      intro j
      by_cases c1 : j < E.Len.toNat
      · rw [hj j (by omega), List.getElem?_replicate, if_pos c1]
      · rw [List.getElem?_eq_none (by omega), List.getElem?_eq_none (by simpa using c1)]
    rw [this]
    rfl
  | succ m ih =>
    intro i w hm hw hj hi
    have hi' : i < w.length := by omega
    have e1 : w64 ((i : Int) + 1) = ((i + 1 : Nat) : Int) := by rw [wrap64 (by omega) (by omega)]; omega
    rw [f_verify_run_l0_eq, List.length_replicate, decide_eq_true (by omega), getI_nat' hi', Int.toNat_natCast, List.getElem?_eq_getElem hi', e1]
    simp only [cond_true, Option.bind_some, setN]
    refine ih (i + 1) _ (by omega) (by simpa using hw) (fun j hj' => ?_) (by omega)
    rw [List.getElem?_set]
    by_cases e : i = j
    · subst e; simp [hi']
    · rw [if_neg e]; exact hj j (by omega)
theorem fill_ref (c : GApiCode) (E : GApiEntry) (hE : 0 ≤ E.Len) (hE2 : E.Len ≤ 65536) : ∀ (m i : Nat) (w : List Int), E.Len.toNat - i = m → w.length = E.Len.toNat → (∀ j, j < i → w[j]? = some (-1)) → i ≤ E.Len.toNat → f_r17_Run_l0 E (i : Int) c w = f_r17_Run_j1 c E (List.replicate E.Len.toNat (-1)) := by
  intro m
  induction m with
  | zero =>
    intro i w hm hw hj hi
    rw [f_r17_Run_l0_eq, List.length_replicate, decide_eq_false (by omega)]
    have : w = List.replicate E.Len.toNat (-1) := by
      apply List.ext_getElem?
      intro j
      by_cases c1 : j < E.Len.toNat
      · rw [hj j (by omega), List.getElem?_replicate, if_pos c1]
      · rw [List.getElem?_eq_none (by omega), List.getElem?_eq_none (by simpa using c1)]
    rw [this]
    rfl
  | succ m ih =>
    intro i w hm hw hj hi
    have hi' : i < w.length := by omega
    have e1 : w64 ((i : Int) + 1) = ((i + 1 : Nat) : Int) := by rw [wrap64 (by omega) (by omega)]; omega
    rw [f_r17_Run_l0_eq, List.length_replicate, decide_eq_true (by omega), getI_nat' hi', Int.toNat_natCast, List.getElem?_eq_getElem hi', e1]
    simp only [cond_true, Option.bind_some, setN]
    refine ih (i + 1) _ (by omega) (by simpa using hw) (fun j hj' => ?_) (by omega)
    rw [List.getElem?_set]
    by_cases e : i = j
    · subst e; simp [hi']
    · rw [if_neg e]; exact hj j (by omega)
theorem run_at {c : GApiCode} {E : GApiEntry} (hfn : FnR c E) :
    (∃ e : Int, e ≠ 0 ∧ ∃ (at' : Int) (F' : GR17F), f_verify_run c E = some (([], e, at', ()), ()) ∧ f_r17_Run c E = some ((F', at', ()), ()) ∧ F'.Error = e) ∨
    ∃ F' : GR17F, f_verify_run c E = some ((F'.D, 0, 0, ()), ()) ∧ f_r17_Run c E = some ((F', 0, ()), ()) ∧ F'.Error = 0 ∧ F'.D.length = E.Len.toNat := by
  have hE := hfn.len0
  have hE2 : E.Len ≤ 65536 := by have := hfn.at0; have := hfn.fit; have := hfn.big; omega
  have o8 : MakeOb 8 E.Len := by unfold MakeOb maxLen; omega
  have o1 : MakeOb 1 E.Len := by unfold MakeOb maxLen; omega
  rw [f_verify_run_eq, f_r17_Run_eq, okP_true o8, okP_true o1]
  simp only [Option.bind_some]
  rw [show f_verify_run_l0 E 0 c _ = _ from fill_code c E hE hE2 _ 0 _ rfl (by simp) (fun j hj => absurd hj (Nat.not_lt_zero _)) (Nat.zero_le _), show f_r17_Run_l0 E 0 c _ = _ from fill_ref c E hE hE2 _ 0 _ rfl (by simp) (fun j hj => absurd hj (Nat.not_lt_zero _)) (Nat.zero_le _), f_verify_run_j1_eq, f_r17_Run_j1_eq]
  have h0 : Rel 0 ⟨E, List.replicate E.Len.toNat (-1), []⟩ ⟨E, List.replicate E.Len.toNat (-1), List.replicate E.Len.toNat false, 0⟩ := by
    refine ⟨rfl, rfl, by simp only [List.length_replicate]; omega, by simp, rfl, by simp only [List.length_replicate]; omega, ?_, List.nodup_nil, fun y => ⟨fun h => (List.not_mem_nil h).elim, ?_⟩, fun x hx => ?_, fun i hi hg => ?_⟩
    · exact fun k h0 h1 => absurd h1 (Nat.not_lt_zero _)
    · rintro ⟨i, _, hi, q1, _⟩
      simp only [List.getElem_replicate] at q1
      omega
    · have := List.eq_of_mem_replicate hx; omega
    · exfalso
      simp only [List.length_replicate] at hi
      simp [List.getD_eq_getElem?_getD, hi] at hg
  rcases reach_rel h0 0 0 (Nat.le_refl _) with ⟨e, he, g1, g2⟩ | ⟨A', F', g1, g2, g3, g4, g5, g6⟩
  · rw [show f_verify_flow_reach _ 0 0 = _ from g1, show f_r17_F_reach_o1 _ 0 0 = _ from g2]
    simp only [Option.bind_some]
    rw [decide_eq_false he, f_r17_Run_l2_eq, decide_eq_false he, f_r17_Run_j3_eq]
    exact .inl ⟨e, he, 0, _, rfl, rfl, rfl⟩
  · rw [show f_verify_flow_reach _ 0 0 = _ from g1, show f_r17_F_reach_o1 _ 0 0 = _ from g2]
    simp only [Option.bind_some, decide_true, Bool.not_true, cond_false]
    have hc : F'.Gone.count false ≤ 65536 := by
      rw [g4]
      simp only [List.count_replicate]
      simp
      omega
    rcases run_rel _ 0 A' F' 0 rfl (by omega) g3 (by rw [g5]; exact hfn) with z | ⟨F2, z1, z2, z3, z4⟩
    · exact .inl z
    · exact .inr ⟨F2, z1, z2, z3, z4.trans (g6.trans (by simp))⟩
end Go.Proofs.YtabmahknlebhpaaGreat
