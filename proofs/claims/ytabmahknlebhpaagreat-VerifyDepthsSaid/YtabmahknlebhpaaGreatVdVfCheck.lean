/- Parts of the proof. -/
import Derived.Test.YtabmahknlebhpaaGreatVdVfLoop
namespace Go.Proofs.YtabmahknlebhpaaGreat
set_option linter.unusedVariables false
theorem in_at (a b c : Int) : ∃ z, f_r17_in a b c = some ((z, ()), ()) := by
  rw [f_r17_in_eq]
  cases decide (a ≥ b) <;> exact ⟨_, rfl⟩
theorem wrong_total (c : GApiCode) (f : GApiEntry) (x : GApiIns) (h1 : 1 ≤ x.Op) (h2 : x.Op ≤ 26) : ∃ e, f_r17_wrong c f x = some ((e, ()), ()) := by
  have key : ∀ (a b d n : Int), ∃ e, ((f_r17_in a b d).bind fun (r : RT0) => (cond (!r.1.1) (some ((n, ()), ())) ((f_r17_wrong_j3)))) = some ((e, ()), ()) := fun a b d n => by
    obtain ⟨z, h⟩ := in_at a b d
    rw [h, f_r17_wrong_j3_eq]
    cases z <;> exact ⟨_, rfl⟩
  have k0 : ∃ e, f_r17_wrong_j0 x = some ((e, ()), ()) := by
    rw [f_r17_wrong_j0_eq, f_r17_wrong_j3_eq]
    cases decide (x.A < 0) <;> exact ⟨_, rfl⟩
  have k1 : ∃ e, f_r17_wrong_j1 f x = some ((e, ()), ()) := by rw [f_r17_wrong_j1_eq]; exact key _ _ _ _
  have k2 : ∃ e, f_r17_wrong_j2 f x = some ((e, ()), ()) := by rw [f_r17_wrong_j2_eq]; exact key _ _ _ _
  have k3 : ∃ e, f_r17_wrong_j3 = some ((e, ()), ()) := by rw [f_r17_wrong_j3_eq]; exact ⟨_, rfl⟩
  rw [f_r17_wrong_eq]
  generalize x.Op = op at *
  rcases op_cases h1 h2 with rfl | rfl | rfl | rfl | rfl | rfl | rfl | rfl | rfl | rfl | rfl | rfl | rfl | rfl | rfl | rfl | rfl | rfl | rfl | rfl | rfl | rfl | rfl | rfl | rfl | rfl
  all_goals first
    | exact k0
    | exact k1
    | exact k2
    | exact k3
    | exact key _ _ _ _
structure Lies (c : GApiCode) (f : GApiEntry) : Prop where
  at0 : 0 ≤ f.At
  len0 : 0 ≤ f.Len
  fit : f.At + f.Len ≤ c.Ins.length
  par : 0 ≤ f.Params
  parS : f.Params ≤ f.Slots
  slots : f.Slots ≤ 200
  res : f.Result = 0 ∨ f.Result = 1
theorem mayF_mem {c : GApiCode} : ∀ {l : List GApiEntry} {a e : Int}, 0 ≤ a → mayF c.Ins.length a l = some e → ∀ f ∈ l, Lies c f
  | [], _, _, _, _ => fun f hf => nomatch hf
  | g :: l, a, e, h0, h => by
    rw [mayF_cons] at h
    split at h
    · rename_i c1
      obtain ⟨⟨q1, q2, q3, q4, q5, q6, q7⟩, q8⟩ := c1
      intro f hf
      rcases List.mem_cons.1 hf with rfl | hf
      · exact ⟨by omega, q2, by omega, q3, q4, q5, by omega⟩
      · exact mayF_mem (by omega) h f hf
    · cases h
theorem check_in {c : GApiCode} (hm : MayC c) {f : GApiEntry} (hf : Lies c f) (n : Int) : ∀ (m i : Nat), f.Len.toNat - i = m → i ≤ f.Len.toNat →
    (∃ e j : Int, e ≠ 0 ∧ f_verify_Check_l1 n c n f (i : Int) = some ((e, n, j, ()), ()) ∧ f_r17_Check_l1 n (i : Int) c n f = some ((e, n, j, ()), ())) ∨
    (f_verify_Check_l1 n c n f (i : Int) = f_verify_Check_j3 c n ∧ f_r17_Check_l1 n (i : Int) c n f = f_r17_Check_j3 c n ∧ ∀ j : Nat, i ≤ j → (j : Int) < f.Len → ∀ x, c.Ins[f.At.toNat + j]? = some x → f_r17_wrong c f x = some ((0, ()), ())) := by
  have a0 := hf.at0
  have l0 := hf.len0
  have hfit := hf.fit
  have hbig := hm.ins
  have e0 : w64 (f.At + f.Len) = f.At + f.Len := wrap64 (by omega) (by omega)
  have hcut := cutL_get c.Ins f.At (f.At + f.Len) ⟨a0, by omega, hfit⟩
  intro m
  induction m with
  | zero =>
    intro i hi hi2
    rw [f_verify_Check_l1_eq, f_r17_Check_l1_eq, e0, hcut.1, decide_eq_false (by omega), decide_eq_false (by omega)]
    exact .inr ⟨rfl, rfl, fun j h1 h2 => by omega⟩
  | succ m ih =>
    intro i hi hi2
    have hil : i < (cutL c.Ins f.At (f.At + f.Len)).length := by rw [hcut.1]; omega
    obtain ⟨hb, hg⟩ := hcut.2 i hil
    have e1 : w64 ((i : Int) + 1) = ((i + 1 : Nat) : Int) := by rw [wrap64 (by omega) (by omega)]; omega
    have e2 : w64 (f.At + (i : Int)) = ((f.At.toNat + i : Nat) : Int) := by rw [wrap64 (by omega) (by omega)]; omega
    have hok := List.all_eq_true.1 hm.ok _ (List.getElem_mem hb)
    unfold insOk at hok
    simp only [Bool.and_eq_true, decide_eq_true_eq] at hok
    obtain ⟨w, hw⟩ := wrong_total c f c.Ins[f.At.toNat + i] hok.1 hok.2.1
    have hr : f_verify_right c f c.Ins[f.At.toNat + i] = some ((w, ()), ()) := by rw [wrong_same c f _ hok.1 hok.2.1]; exact hw
    rw [f_verify_Check_l1_eq, f_r17_Check_l1_eq, e0, decide_eq_true (by omega), decide_eq_true (by omega), getI_nat' hil, hg hb, e1, e2, getI_nat' hb]
    simp only [cond_true, Option.bind_some, hr, hw]
    by_cases hz : w = 0
    · subst hz
      simp only [decide_true, Bool.not_true, cond_false]
      rcases ih (i + 1) (by omega) (by omega) with g | ⟨g1, g2, g3⟩
      · exact .inl g
      · refine .inr ⟨g1, g2, fun j h1 h2 x hx => ?_⟩
        by_cases e : i = j
        · subst e
          rw [List.getElem?_eq_getElem hb] at hx
          cases hx
          exact hw
        · exact g3 j (by omega) h2 x hx
    · rw [decide_eq_false hz]
      exact .inl ⟨w, i, hz, rfl, rfl⟩
theorem check_all {c : GApiCode} (hm : MayC c) : ∀ (m i : Nat), c.Fns.length - i = m →
    (∃ e n j : Int, e ≠ 0 ∧ f_verify_Check_l0 c (i : Int) = some ((e, n, j, ()), ()) ∧ f_r17_Check_l0 c (i : Int) = some ((e, n, j, ()), ())) ∨
    (f_verify_Check_l0 c (i : Int) = f_verify_Check_j2 c ∧ f_r17_Check_l0 c (i : Int) = f_r17_Check_j2 c ∧ ∀ f ∈ c.Fns.drop i, FnR c f) := by
  have hlies := mayF_mem (Int.le_refl 0) hm.lay
  have hfns := hm.fns
  intro m
  induction m with
  | zero =>
    intro i hi
    rw [f_verify_Check_l0_eq, f_r17_Check_l0_eq, decide_eq_false (by omega), List.drop_eq_nil_of_le (by omega)]
    exact .inr ⟨rfl, rfl, fun f hf => nomatch hf⟩
  | succ m ih =>
    intro i hi
    have hil : i < c.Fns.length := by omega
    have hf := hlies _ (List.getElem_mem hil)
    have e1 : w64 ((i : Int) + 1) = ((i + 1 : Nat) : Int) := by rw [wrap64 (by omega) (by omega)]; omega
    rw [f_verify_Check_l0_eq, f_r17_Check_l0_eq, decide_eq_true (by omega), getI_nat' hil, List.drop_eq_getElem_cons hil]
    generalize c.Fns[i] = f at *
    simp only [cond_true, Option.bind_some]
    have a0 := hf.at0
    have l0 := hf.len0
    have hfit := hf.fit
    have hbig := hm.ins
    rw [okP_true (show CutR f.At (w64 (f.At + f.Len)) c.Ins.length by rw [wrap64 (by omega) (by omega)]; exact ⟨a0, by omega, hfit⟩)]
    simp only [Option.bind_some]
    rcases check_in hm hf (i : Int) _ 0 rfl (Nat.zero_le _) with ⟨e, j, he, g1, g2⟩ | ⟨g1, g2, g3⟩
    · exact .inl ⟨e, i, j, he, g1, g2⟩
    · rw [show f_verify_Check_l1 i c i f 0 = _ from g1, show f_r17_Check_l1 i 0 c i f = _ from g2, f_verify_Check_j3_eq, f_r17_Check_j3_eq, e1]
      rcases ih (i + 1) (by omega) with g | ⟨k1, k2, k3⟩
      · exact .inl g
      · refine .inr ⟨k1, k2, fun f' hf' => ?_⟩
        rcases List.mem_cons.1 hf' with rfl | hf'
        · refine ⟨a0, l0, hfit, hbig, fun f hf => ⟨(hlies f hf).par, (hlies f hf).res⟩, hf.res, fun x hx => ?_, fun j hj x hx => g3 j (Nat.zero_le _) hj x hx⟩
          have hok := List.all_eq_true.1 hm.ok _ hx
          unfold insOk at hok
          simp only [Bool.and_eq_true, decide_eq_true_eq] at hok
          exact ⟨hok.1, hok.2.1⟩
        · exact k3 f' hf'
def Runs (c : GApiCode) (f : GApiEntry) : Prop := ∃ F' : GR17F, f_verify_run c f = some ((F'.D, 0, 0, ()), ()) ∧ f_r17_Run c f = some ((F', 0, ()), ()) ∧ F'.Error = 0 ∧ F'.D.length = f.Len.toNat
theorem check_runs {c : GApiCode} (hm : MayC c) (hall : ∀ f ∈ c.Fns, FnR c f) : ∀ (m i : Nat), c.Fns.length - i = m →
    ∃ e n j : Int, f_verify_Check_l4 c (i : Int) = some ((e, n, j, ()), ()) ∧ f_r17_Check_l4 c (i : Int) = some ((e, n, j, ()), ()) ∧ (e = 0 → ∀ f ∈ c.Fns.drop i, Runs c f) := by
  have hfns := hm.fns
  intro m
  induction m with
  | zero =>
    intro i hi
    rw [f_verify_Check_l4_eq, f_r17_Check_l4_eq, decide_eq_false (by omega), List.drop_eq_nil_of_le (by omega), f_verify_Check_j5_eq, f_r17_Check_j5_eq]
    exact ⟨0, 0, 0, rfl, rfl, fun _ f hf => nomatch hf⟩
  | succ m ih =>
    intro i hi
    have hil : i < c.Fns.length := by omega
    have hf := hall _ (List.getElem_mem hil)
    have e1 : w64 ((i : Int) + 1) = ((i + 1 : Nat) : Int) := by rw [wrap64 (by omega) (by omega)]; omega
    rw [f_verify_Check_l4_eq, f_r17_Check_l4_eq, decide_eq_true (by omega), getI_nat' hil, e1, List.drop_eq_getElem_cons hil]
    generalize c.Fns[i] = f at *
    simp only [cond_true, Option.bind_some]
    rcases run_at hf with ⟨e, he, at', F', g1, g2, g3⟩ | ⟨F', g1, g2, g3, g4⟩
    · rw [g1, g2]
      simp only [Option.bind_some]
      rw [decide_eq_false he, decide_eq_false (by rw [g3]; exact he), g3]
      exact ⟨e, i, at', rfl, rfl, fun h => absurd h he⟩
    · obtain ⟨e, n, j, k1, k2, k3⟩ := ih (i + 1) (by omega)
      rw [g1, g2]
      simp only [Option.bind_some]
      rw [decide_eq_true g3]
      refine ⟨e, n, j, k1, k2, fun h f' hf' => ?_⟩
      rcases List.mem_cons.1 hf' with rfl | hf'
      · exact ⟨F', g1, g2, g3, g4⟩
      · exact k3 h f' hf'
theorem check_at (c : GApiCode) (h8 : ∀ x ∈ c.Ins, 0 ≤ x.Op) : ∃ e n j : Int, f_verify_Check c = some ((e, n, j, ()), ()) ∧ f_r17_Check c = some ((e, n, j, ()), ()) ∧ (e = 0 → MayC c ∧ (∀ f ∈ c.Fns, FnR c f) ∧ ∀ f ∈ c.Fns, Runs c f) := by
  obtain ⟨b, h1, h2, h3⟩ := may_same c h8
  rw [f_verify_Check_eq, f_r17_Check_eq, h1, h2]
  cases b with
  | false => exact ⟨1, 0, 0, rfl, rfl, fun h => absurd h (by decide)⟩
  | true =>
    have hm := h3 rfl
    simp only [Option.bind_some, Bool.not_true, cond_false]
    rcases check_all hm _ 0 rfl with ⟨e, n, j, he, g1, g2⟩ | ⟨g1, g2, g3⟩
    · exact ⟨e, n, j, g1, g2, fun h => absurd h he⟩
    · rw [List.drop_zero] at g3
      obtain ⟨e, n, j, k1, k2, k3⟩ := check_runs hm g3 _ 0 rfl
      rw [List.drop_zero] at k3
      refine ⟨e, n, j, ?_, ?_, fun h => ⟨hm, g3, k3 h⟩⟩
      · rw [show f_verify_Check_l0 c 0 = _ from g1, f_verify_Check_j2_eq]; exact k1
      · rw [show f_r17_Check_l0 c 0 = _ from g2, f_r17_Check_j2_eq]; exact k2
end Go.Proofs.YtabmahknlebhpaaGreat
