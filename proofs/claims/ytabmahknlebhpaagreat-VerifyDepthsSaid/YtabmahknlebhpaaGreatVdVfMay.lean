/- Parts of the proof. -/
import Derived.Test.YtabmahknlebhpaaGreatVdQR
namespace Go.Proofs.YtabmahknlebhpaaGreat
set_option linter.unusedVariables false
def insOk (x : GApiIns) : Bool := decide (1 ≤ x.Op) && (decide (x.Op ≤ 26) && (decide (0 ≤ x.Line) && decide (x.Line ≤ 2147483647)))
theorem may_ins (c : GApiCode) (hc : c.Ins.length ≤ 65536) : ∀ (m i : Nat), c.Ins.length - i = m → f_code_May_l2 c (i : Int) = if (c.Ins.drop i).all insOk = true then f_code_May_j3 c else some ((false, ()), ()) := by
  intro m
  induction m with
  | zero =>
    intro i hm
    rw [f_code_May_l2_eq, decide_eq_false (by omega), List.drop_eq_nil_of_le (by omega)]
    rfl
  | succ m ih =>
    intro i hm
    have hi : i < c.Ins.length := by omega
    have e1 : w64 ((i : Int) + 1) = ((i + 1 : Nat) : Int) := by rw [wrap64 (by omega) (by omega)]; omega
    rw [f_code_May_l2_eq, decide_eq_true (by omega), getI_nat' hi, e1, ih (i + 1) (by omega), List.drop_eq_getElem_cons hi, List.all_cons]
    generalize c.Ins[i] = x at *
    generalize (c.Ins.drop (i + 1)).all insOk = z
    simp only [Option.bind_some, insOk, Bool.cond_eq_ite, decide_eq_true_eq, Bool.and_eq_true]
    cases z <;> simp only [Bool.false_eq_true, and_false, and_true, if_false, if_true]
    all_goals repeat' split
    all_goals first | rfl | (exfalso; omega)
theorem ref_ins (c : GApiCode) (hc : c.Ins.length ≤ 65536) (h8 : ∀ x ∈ c.Ins, 0 ≤ x.Op) (a b : Int) : ∀ (m i : Nat), c.Ins.length - i = m → f_r15_May_l4 a b c (i : Int) = if (c.Ins.drop i).all insOk = true then f_r15_May_j5 a b c else some ((false, ()), ()) := by
  intro m
  induction m with
  | zero =>
    intro i hm
    rw [f_r15_May_l4_eq, decide_eq_false (by omega), List.drop_eq_nil_of_le (by omega)]
    rfl
  | succ m ih =>
    intro i hm
    have hi : i < c.Ins.length := by omega
    have h0 := h8 _ (List.getElem_mem hi)
    have e1 : w64 ((i : Int) + 1) = ((i + 1 : Nat) : Int) := by rw [wrap64 (by omega) (by omega)]; omega
    rw [f_r15_May_l4_eq, decide_eq_true (by omega), getI_nat' hi, e1, ih (i + 1) (by omega), List.drop_eq_getElem_cons hi, List.all_cons]
    generalize c.Ins[i] = x at *
    generalize (c.Ins.drop (i + 1)).all insOk = z
    simp only [Option.bind_some, insOk, Bool.cond_eq_ite, decide_eq_true_eq, Bool.and_eq_true]
    cases z <;> simp only [Bool.false_eq_true, and_false, and_true, if_false, if_true]
    all_goals repeat' split
    all_goals first | rfl | (exfalso; omega)
def sumL : List (List UInt8) → Int
  | [] => 0
  | s :: l => (s.length : Int) + sumL l
theorem sumL_cons (s : List UInt8) (l : List (List UInt8)) : sumL (s :: l) = (s.length : Int) + sumL l := rfl
theorem sumL_nn : ∀ l : List (List UInt8), 0 ≤ sumL l
  | [] => Int.le_refl _
  | s :: l => by have := sumL_nn l; unfold sumL; omega
theorem may_strs (c : GApiCode) (hc : c.Strs.length ≤ 65536) : ∀ (m i : Nat) (left : Int), c.Strs.length - i = m → 0 ≤ left → left ≤ 1048576 → f_code_May_l4 left c (i : Int) = some ((decide (sumL (c.Strs.drop i) ≤ left), ()), ()) := by
  intro m
  induction m with
  | zero =>
    intro i left hm h0 h1
    rw [f_code_May_l4_eq, decide_eq_false (by omega), List.drop_eq_nil_of_le (by omega), f_code_May_j5_eq, decide_eq_true (show sumL [] ≤ left from h0)]
    rfl
  | succ m ih =>
    intro i left hm h0 h1
    have hi : i < c.Strs.length := by omega
    have e1 : w64 ((i : Int) + 1) = ((i + 1 : Nat) : Int) := by rw [wrap64 (by omega) (by omega)]; omega
    rw [f_code_May_l4_eq, decide_eq_true (by omega), getI_nat' hi, e1, List.drop_eq_getElem_cons hi]
    simp only [cond_true, Option.bind_some]
    have hs := sumL_nn (c.Strs.drop (i + 1))
    by_cases hl : ((c.Strs[i]).length : Int) > left
    · rw [decide_eq_true hl, decide_eq_false (show ¬ sumL (c.Strs[i] :: c.Strs.drop (i + 1)) ≤ left by rw [sumL_cons]; omega)]
      rfl
    · rw [decide_eq_false hl, cond_false, wrap64 (by omega) (by omega), ih (i + 1) _ (by omega) (by omega) (by omega)]
      congr 4
      rw [sumL_cons]
      exact propext ⟨fun h => by omega, fun h => by omega⟩
theorem ref_strs (c : GApiCode) (hc : c.Strs.length ≤ 65536) (a : Int) : ∀ (m i : Nat) (t : Int), c.Strs.length - i = m → 0 ≤ t → t ≤ 1048576 * i → f_r15_May_l2 a t c (i : Int) = if (c.Strs.drop i).all (fun s => decide ((s.length : Int) ≤ 1048576)) = true then f_r15_May_j3 a (t + sumL (c.Strs.drop i)) c else some ((false, ()), ()) := by
  intro m
  induction m with
  | zero =>
    intro i t hm h0 h1
    rw [f_r15_May_l2_eq, decide_eq_false (by omega), List.drop_eq_nil_of_le (by omega)]
    show f_r15_May_j3 a t c = f_r15_May_j3 a (t + 0) c
    rw [Int.add_zero]
  | succ m ih =>
    intro i t hm h0 h1
    have hi : i < c.Strs.length := by omega
    have e1 : w64 ((i : Int) + 1) = ((i + 1 : Nat) : Int) := by rw [wrap64 (by omega) (by omega)]; omega
    rw [f_r15_May_l2_eq, decide_eq_true (by omega), getI_nat' hi, e1, List.drop_eq_getElem_cons hi, List.all_cons]
    simp only [cond_true, Option.bind_some]
    by_cases hl : ((c.Strs[i]).length : Int) > 1048576
    · rw [decide_eq_true hl, decide_eq_false (by omega)]
      rfl
    · rw [decide_eq_false hl, decide_eq_true (by omega), cond_false, wrap64 (by omega) (by omega), ih (i + 1) _ (by omega) (by omega) (by omega)]
      simp only [Bool.true_and]
      rw [sumL_cons, Int.add_assoc]
def fnOk (f : GApiEntry) (a : Int) : Prop := f.At = a ∧ 0 ≤ f.Len ∧ 0 ≤ f.Params ∧ f.Params ≤ f.Slots ∧ f.Slots ≤ 200 ∧ 0 ≤ f.Result ∧ f.Result ≤ 1
instance (f : GApiEntry) (a : Int) : Decidable (fnOk f a) := by unfold fnOk; infer_instance
def mayF (n : Int) : Int → List GApiEntry → Option Int
  | a, [] => some a
  | a, f :: l => if fnOk f a ∧ f.Len ≤ n - a then mayF n (a + f.Len) l else none
def mayR (n : Int) : Int → List GApiEntry → Option Int
  | a, [] => some a
  | a, f :: l => if fnOk f a ∧ f.Len ≤ n then mayR n (a + f.Len) l else none
theorem mayF_cons (n a : Int) (f : GApiEntry) (l : List GApiEntry) : mayF n a (f :: l) = if fnOk f a ∧ f.Len ≤ n - a then mayF n (a + f.Len) l else none := rfl
theorem mayR_cons (n a : Int) (f : GApiEntry) (l : List GApiEntry) : mayR n a (f :: l) = if fnOk f a ∧ f.Len ≤ n then mayR n (a + f.Len) l else none := rfl
theorem mayR_le {n : Int} : ∀ {l : List GApiEntry} {a e : Int}, mayR n a l = some e → a ≤ e
  | [], a, e, h => by cases h; exact Int.le_refl _
  | f :: l, a, e, h => by
    rw [mayR_cons] at h
    split at h
    · rename_i c; have := mayR_le h; have := c.1.2.1; omega
    · cases h
theorem mayFR {n : Int} : ∀ {l : List GApiEntry} {a : Int}, 0 ≤ a → (mayF n a l = some n ↔ mayR n a l = some n)
  | [], a, _ => Iff.rfl
  | f :: l, a, h0 => by
    rw [mayF_cons, mayR_cons]
    by_cases c : fnOk f a
    · have hl := c.2.1
      by_cases c1 : f.Len ≤ n - a
      · rw [if_pos ⟨c, c1⟩, if_pos ⟨c, by omega⟩]; exact mayFR (by omega)
      · rw [if_neg (fun h => c1 h.2)]
        refine ⟨fun h => (by cases h), fun h => ?_⟩
        split at h
        · have := mayR_le h; omega
        · cases h
    · rw [if_neg (fun h => c h.1), if_neg (fun h => c h.1)]
theorem may_fns (c : GApiCode) (hc : c.Fns.length ≤ 100) (hn : c.Ins.length ≤ 65536) : ∀ (m i : Nat) (a : Int), c.Fns.length - i = m → 0 ≤ a → a ≤ c.Ins.length → f_code_May_l0 a c (i : Int) = match mayF c.Ins.length a (c.Fns.drop i) with | some e => f_code_May_j1 e c | none => some ((false, ()), ()) := by
  intro m
  induction m with
  | zero =>
    intro i a hm h0 h1
    rw [f_code_May_l0_eq, decide_eq_false (by omega), List.drop_eq_nil_of_le (by omega)]
    rfl
  | succ m ih =>
    intro i a hm h0 h1
    have hi : i < c.Fns.length := by omega
    have e1 : w64 ((i : Int) + 1) = ((i + 1 : Nat) : Int) := by rw [wrap64 (by omega) (by omega)]; omega
    have e2 : w64 ((c.Ins.length : Int) - a) = (c.Ins.length : Int) - a := wrap64 (by omega) (by omega)
    rw [f_code_May_l0_eq, decide_eq_true (by omega), getI_nat' hi, e1, e2, List.drop_eq_getElem_cons hi, mayF_cons]
    generalize c.Fns[i] = x
    simp only [cond_true, Option.bind_some]
    by_cases hx : fnOk x a ∧ x.Len ≤ (c.Ins.length : Int) - a
    · rw [if_pos hx, ← ih (i + 1) (a + x.Len) (by omega) (by have := hx.1.2.1; omega) (by have := hx.2; omega)]
      obtain ⟨⟨g1, g2, g3, g4, g5, g6, g7⟩, g8⟩ := hx
      rw [wrap64 (n := a + x.Len) (by omega) (by omega)]
      simp only [Bool.cond_eq_ite, decide_eq_true_eq, Bool.not_eq_true', decide_eq_false_iff_not]
      repeat' split
      all_goals first | rfl | (exfalso; omega)
    · rw [if_neg hx]
      unfold fnOk at hx
      simp only [Bool.cond_eq_ite, decide_eq_true_eq, Bool.not_eq_true', decide_eq_false_iff_not]
      repeat' split
      all_goals first | rfl | (exfalso; omega)
theorem ref_fns (c : GApiCode) (hc : c.Fns.length ≤ 100) (hn : c.Ins.length ≤ 65536) : ∀ (m i : Nat) (a : Int), c.Fns.length - i = m → 0 ≤ a → a ≤ 65536 * i → f_r15_May_l0 a c (i : Int) = match mayR c.Ins.length a (c.Fns.drop i) with | some e => f_r15_May_j1 e c | none => some ((false, ()), ()) := by
  intro m
  induction m with
  | zero =>
    intro i a hm h0 h1
    rw [f_r15_May_l0_eq, decide_eq_false (by omega), List.drop_eq_nil_of_le (by omega)]
    rfl
  | succ m ih =>
    intro i a hm h0 h1
    have hi : i < c.Fns.length := by omega
    have e1 : w64 ((i : Int) + 1) = ((i + 1 : Nat) : Int) := by rw [wrap64 (by omega) (by omega)]; omega
    rw [f_r15_May_l0_eq, decide_eq_true (by omega), getI_nat' hi, e1, List.drop_eq_getElem_cons hi, mayR_cons]
    generalize c.Fns[i] = x
    simp only [cond_true, Option.bind_some]
    by_cases hx : fnOk x a ∧ x.Len ≤ (c.Ins.length : Int)
    · rw [if_pos hx, ← ih (i + 1) (a + x.Len) (by omega) (by have := hx.1.2.1; omega) (by have := hx.2; omega)]
      obtain ⟨⟨g1, g2, g3, g4, g5, g6, g7⟩, g8⟩ := hx
      rw [wrap64 (n := a + x.Len) (by omega) (by omega)]
      simp only [Bool.cond_eq_ite, decide_eq_true_eq, Bool.not_eq_true', decide_eq_false_iff_not]
      repeat' split
      all_goals first | rfl | (exfalso; omega)
    · rw [if_neg hx]
      unfold fnOk at hx
      simp only [Bool.cond_eq_ite, decide_eq_true_eq, Bool.not_eq_true', decide_eq_false_iff_not]
      repeat' split
      all_goals first | rfl | (exfalso; omega)
end Go.Proofs.YtabmahknlebhpaaGreat
