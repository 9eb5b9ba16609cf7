/- Parts of the proof. -/
import Derived.Test.YtcmpcbpdnaodmaaDoorLsMT
import Derived.Test.YtcmpcbpdnaodmaaDoorLsML
namespace Go.Proofs.YtcmpcbpdnaodmaaDoor
set_option linter.unusedVariables false
def insOkM (x : GApiIns) : Bool := decide (1 ≤ x.Op) && (decide (x.Op ≤ 26) && (decide (0 ≤ x.Line) && decide (x.Line ≤ 2147483647)))
theorem may_insM (c : GApiCode) (hc : c.Ins.length ≤ 65536) : ∀ (m i : Nat), c.Ins.length - i = m → fM_code_May_l2 c (i : Int) = if (c.Ins.drop i).all insOkM = true then fM_code_May_j3 c else some ((false, ()), ()) := by
  intro m
  induction m with
  | zero =>
    intro i hm
    rw [fM_code_May_l2_eq, decide_eq_false (by omega), List.drop_eq_nil_of_le (by omega)]
    rfl
  | succ m ih =>
    intro i hm
    have hi : i < c.Ins.length := by omega
    have e1 : w64 ((i : Int) + 1) = ((i + 1 : Nat) : Int) := by rw [wrap64 (by omega) (by omega)]; omega
    rw [fM_code_May_l2_eq, decide_eq_true (by omega), getI_nat' hi, e1, ih (i + 1) (by omega), List.drop_eq_getElem_cons hi, List.all_cons]
    generalize c.Ins[i] = x at *
    generalize (c.Ins.drop (i + 1)).all insOkM = z
    simp only [Option.bind_some, insOkM, Bool.cond_eq_ite, decide_eq_true_eq, Bool.and_eq_true]
    cases z <;> simp only [Bool.false_eq_true, and_false, and_true, if_false, if_true]
    all_goals repeat' split
    all_goals first | rfl | (exfalso; omega)
def sumLM : List (List UInt8) → Int
  | [] => 0
  | s :: l => (s.length : Int) + sumLM l
theorem sumL_consM (s : List UInt8) (l : List (List UInt8)) : sumLM (s :: l) = (s.length : Int) + sumLM l := rfl
theorem sumL_nnM : ∀ l : List (List UInt8), 0 ≤ sumLM l
  | [] => Int.le_refl _
  | s :: l => by have := sumL_nnM l; unfold sumLM; omega
theorem may_strsM (c : GApiCode) (hc : c.Strs.length ≤ 65536) : ∀ (m i : Nat) (left : Int), c.Strs.length - i = m → 0 ≤ left → left ≤ 1048576 → fM_code_May_l4 left c (i : Int) = some ((decide (sumLM (c.Strs.drop i) ≤ left), ()), ()) := by
  intro m
  induction m with
  | zero =>
    intro i left hm h0 h1
    rw [fM_code_May_l4_eq, decide_eq_false (by omega), List.drop_eq_nil_of_le (by omega), fM_code_May_j5_eq, decide_eq_true (show sumLM [] ≤ left from h0)]
    rfl
  | succ m ih =>
    intro i left hm h0 h1
    have hi : i < c.Strs.length := by omega
    have e1 : w64 ((i : Int) + 1) = ((i + 1 : Nat) : Int) := by rw [wrap64 (by omega) (by omega)]; omega
    rw [fM_code_May_l4_eq, decide_eq_true (by omega), getI_nat' hi, e1, List.drop_eq_getElem_cons hi]
    simp only [cond_true, Option.bind_some]
    have hs := sumL_nnM (c.Strs.drop (i + 1))
    by_cases hl : ((c.Strs[i]).length : Int) > left
    · rw [decide_eq_true hl, decide_eq_false (show ¬ sumLM (c.Strs[i] :: c.Strs.drop (i + 1)) ≤ left by rw [sumL_consM]; omega)]
      rfl
    · rw [decide_eq_false hl, cond_false, wrap64 (by omega) (by omega), ih (i + 1) _ (by omega) (by omega) (by omega)]
      congr 4
      rw [sumL_consM]
      exact propext ⟨fun h => by omega, fun h => by omega⟩
def fnOkM (f : GApiEntry) (a : Int) : Prop := f.At = a ∧ 0 ≤ f.Len ∧ 0 ≤ f.Params ∧ f.Params ≤ f.Slots ∧ f.Slots ≤ 200 ∧ 0 ≤ f.Result ∧ f.Result ≤ 1
instance (f : GApiEntry) (a : Int) : Decidable (fnOkM f a) := by unfold fnOkM; infer_instance
def mayFM (n : Int) : Int → List GApiEntry → Option Int
  | a, [] => some a
  | a, f :: l => if fnOkM f a ∧ f.Len ≤ n - a then mayFM n (a + f.Len) l else none
theorem mayF_consM (n a : Int) (f : GApiEntry) (l : List GApiEntry) : mayFM n a (f :: l) = if fnOkM f a ∧ f.Len ≤ n - a then mayFM n (a + f.Len) l else none := rfl
theorem may_fnsM (c : GApiCode) (hc : c.Fns.length ≤ 100) (hn : c.Ins.length ≤ 65536) : ∀ (m i : Nat) (a : Int), c.Fns.length - i = m → 0 ≤ a → a ≤ c.Ins.length → fM_code_May_l0 a c (i : Int) = match mayFM c.Ins.length a (c.Fns.drop i) with | some e => fM_code_May_j1 e c | none => some ((false, ()), ()) := by
  intro m
  induction m with
  | zero =>
    intro i a hm h0 h1
    rw [fM_code_May_l0_eq, decide_eq_false (by omega), List.drop_eq_nil_of_le (by omega)]
    rfl
  | succ m ih =>
    intro i a hm h0 h1
    have hi : i < c.Fns.length := by omega
    have e1 : w64 ((i : Int) + 1) = ((i + 1 : Nat) : Int) := by rw [wrap64 (by omega) (by omega)]; omega
    have e2 : w64 ((c.Ins.length : Int) - a) = (c.Ins.length : Int) - a := wrap64 (by omega) (by omega)
    rw [fM_code_May_l0_eq, decide_eq_true (by omega), getI_nat' hi, e1, e2, List.drop_eq_getElem_cons hi, mayF_consM]
    generalize c.Fns[i] = x
    simp only [cond_true, Option.bind_some]
    by_cases hx : fnOkM x a ∧ x.Len ≤ (c.Ins.length : Int) - a
    · rw [if_pos hx, ← ih (i + 1) (a + x.Len) (by omega) (by have := hx.1.2.1; omega) (by have := hx.2; omega)]
      obtain ⟨⟨g1, g2, g3, g4, g5, g6, g7⟩, g8⟩ := hx
      rw [wrap64 (n := a + x.Len) (by omega) (by omega)]
      simp only [Bool.cond_eq_ite, decide_eq_true_eq, Bool.not_eq_true', decide_eq_false_iff_not]
      repeat' split
      all_goals first | rfl | (exfalso; omega)
    · rw [if_neg hx]
      unfold fnOkM at hx
      simp only [Bool.cond_eq_ite, decide_eq_true_eq, Bool.not_eq_true', decide_eq_false_iff_not]
      repeat' split
      all_goals first | rfl | (exfalso; omega)
theorem code_j1M (c : GApiCode) (c2 : c.Ins.length ≤ 65536) (c3 : c.Strs.length ≤ 65536) (e : Int) : fM_code_May_j1 e c = some ((decide (e = (c.Ins.length : Int)) && (c.Ins.all insOkM && decide (sumLM c.Strs ≤ 1048576)), ()), ()) := by
  have q1 := may_insM c c2 _ 0 rfl
  have q2 := may_strsM c c3 _ 0 1048576 rfl (by omega) (by omega)
  rw [fM_code_May_j1_eq]
  by_cases h : e = (c.Ins.length : Int)
  · rw [decide_eq_true h]
    simp only [Bool.not_true, cond_false, Bool.true_and]
    rw [show fM_code_May_l2 c 0 = _ from q1, List.drop_zero]
    cases c.Ins.all insOkM with
    | true =>
      rw [if_pos rfl, fM_code_May_j3_eq, show fM_code_May_l4 1048576 c 0 = _ from q2, List.drop_zero]
      rfl
    | false => rfl
  · rw [decide_eq_false h]; rfl
def mayB (c : GApiCode) : Bool := decide (c.Fns.length ≤ 100) && (decide (c.Ins.length ≤ 65536) && (decide (c.Strs.length ≤ 65536) && (match mayFM c.Ins.length 0 c.Fns with
  | some e => decide (e = (c.Ins.length : Int)) && (c.Ins.all insOkM && decide (sumLM c.Strs ≤ 1048576))
  | none => false)))
theorem may_isM (c : GApiCode) : fM_code_May c = some ((mayB c, ()), ()) := by
  unfold mayB
  rw [fM_code_May_eq]
  by_cases c1 : c.Fns.length ≤ 100
  · rw [decide_eq_false (by omega : ¬ (c.Fns.length : Int) > 100), decide_eq_true c1]
    by_cases c2 : c.Ins.length ≤ 65536
    · rw [decide_eq_false (by omega : ¬ (c.Ins.length : Int) > 65536), decide_eq_true c2]
      by_cases c3 : c.Strs.length ≤ 65536
      · rw [decide_eq_false (by omega : ¬ (c.Strs.length : Int) > 65536), decide_eq_true c3]
        simp only [cond_false, Bool.true_and]
        rw [show fM_code_May_l0 0 c 0 = _ from may_fnsM c c1 c2 _ 0 0 rfl (Int.le_refl _) (by omega), List.drop_zero]
        cases mayFM c.Ins.length 0 c.Fns with
        | none => rfl
        | some e => exact code_j1M c c2 c3 e
      · rw [decide_eq_true (by omega : (c.Strs.length : Int) > 65536), decide_eq_false c3]; rfl
    · rw [decide_eq_true (by omega : (c.Ins.length : Int) > 65536), decide_eq_false c2]; rfl
  · rw [decide_eq_true (by omega : (c.Fns.length : Int) > 100), decide_eq_false c1]; rfl
theorem may_fnp (c : GApiCode) : FnP Tryd.prog 12 [e_GApiCode c] (aB (mayB c)) := xM_May_ok (by
  rw [xM_May_d]
  exact map_someM (may_isM c) rfl)
end Go.Proofs.YtcmpcbpdnaodmaaDoor
