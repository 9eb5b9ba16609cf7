/- Parts of the proof. -/
import Derived.Test.YtcmpcbpdnaodmaaDoorLsQR
import Derived.Test.YtcmpcbpdnaodmaaDoorLsLiMay
namespace Go.Proofs.YtcmpcbpdnaodmaaDoor
set_option linter.unusedVariables false
theorem ref_insM (c : GApiCode) (hc : c.Ins.length ≤ 65536) (h8 : ∀ x ∈ c.Ins, 0 ≤ x.Op) (a b : Int) : ∀ (m i : Nat), c.Ins.length - i = m → f_r15_May_l4 a b c (i : Int) = if (c.Ins.drop i).all insOkM = true then f_r15_May_j5 a b c else some ((false, ()), ()) := by
  intro m
  induction m with
  | zero =>
    intro i hm
    rw [f_r15_May_l4_eq, decide_eq_false (by omega), List.drop_eq_nil_of_le (by omega)]
    rfl
  | succ m ih =>
    intro i hm
    have hi : i < c.Ins.length := by omega
    have h0 := h8 _ (List.getElem_mem hi)
    have e1 : w64 ((i : Int) + 1) = ((i + 1 : Nat) : Int) := by rw [wrap64 (by omega) (by omega)]; omega
    rw [f_r15_May_l4_eq, decide_eq_true (by omega), getI_nat' hi, e1, ih (i + 1) (by omega), List.drop_eq_getElem_cons hi, List.all_cons]
    generalize c.Ins[i] = x at *
    generalize (c.Ins.drop (i + 1)).all insOkM = z
    simp only [Option.bind_some, insOkM, Bool.cond_eq_ite, decide_eq_true_eq, Bool.and_eq_true]
    cases z <;> simp only [Bool.false_eq_true, and_false, and_true, if_false, if_true]
    all_goals repeat' split
    all_goals first | rfl | (exfalso; omega)
theorem ref_strsM (c : GApiCode) (hc : c.Strs.length ≤ 65536) (a : Int) : ∀ (m i : Nat) (t : Int), c.Strs.length - i = m → 0 ≤ t → t ≤ 1048576 * i → f_r15_May_l2 a t c (i : Int) = if (c.Strs.drop i).all (fun s => decide ((s.length : Int) ≤ 1048576)) = true then f_r15_May_j3 a (t + sumLM (c.Strs.drop i)) c else some ((false, ()), ()) := by
  intro m
  induction m with
  | zero =>
    intro i t hm h0 h1
    rw [f_r15_May_l2_eq, decide_eq_false (by omega), List.drop_eq_nil_of_le (by omega)]
    show f_r15_May_j3 a t c = f_r15_May_j3 a (t + 0) c
    rw [Int.add_zero]
  | succ m ih =>
    intro i t hm h0 h1
    have hi : i < c.Strs.length := by omega
    have e1 : w64 ((i : Int) + 1) = ((i + 1 : Nat) : Int) := by rw [wrap64 (by omega) (by omega)]; omega
    rw [f_r15_May_l2_eq, decide_eq_true (by omega), getI_nat' hi, e1, List.drop_eq_getElem_cons hi, List.all_cons]
    simp only [cond_true, Option.bind_some]
    by_cases hl : ((c.Strs[i]).length : Int) > 1048576
    · rw [decide_eq_true hl, decide_eq_false (by omega)]
      rfl
    · rw [decide_eq_false hl, decide_eq_true (by omega), cond_false, wrap64 (by omega) (by omega), ih (i + 1) _ (by omega) (by omega) (by omega)]
      simp only [Bool.true_and]
      rw [sumL_consM, Int.add_assoc]
def mayRM (n : Int) : Int → List GApiEntry → Option Int
  | a, [] => some a
  | a, f :: l => if fnOkM f a ∧ f.Len ≤ n then mayRM n (a + f.Len) l else none
theorem mayR_consM (n a : Int) (f : GApiEntry) (l : List GApiEntry) : mayRM n a (f :: l) = if fnOkM f a ∧ f.Len ≤ n then mayRM n (a + f.Len) l else none := rfl
theorem mayR_leM {n : Int} : ∀ {l : List GApiEntry} {a e : Int}, mayRM n a l = some e → a ≤ e
  | [], a, e, h => by cases h; exact Int.le_refl _
  | f :: l, a, e, h => by
    rw [mayR_consM] at h
    split at h
    · rename_i c; have := mayR_leM h; have := c.1.2.1; omega
    · cases h
theorem mayFRM {n : Int} : ∀ {l : List GApiEntry} {a : Int}, 0 ≤ a → (mayFM n a l = some n ↔ mayRM n a l = some n)
  | [], a, _ => Iff.rfl
  | f :: l, a, h0 => by
    rw [mayF_consM, mayR_consM]
    by_cases c : fnOkM f a
    · have hl := c.2.1
      by_cases c1 : f.Len ≤ n - a
      · rw [if_pos ⟨c, c1⟩, if_pos ⟨c, by omega⟩]; exact mayFRM (by omega)
      · rw [if_neg (fun h => c1 h.2)]
        refine ⟨fun h => (by cases h), fun h => ?_⟩
        split at h
        · have := mayR_leM h; omega
        · cases h
    · rw [if_neg (fun h => c h.1), if_neg (fun h => c h.1)]
theorem ref_fnsM (c : GApiCode) (hc : c.Fns.length ≤ 100) (hn : c.Ins.length ≤ 65536) : ∀ (m i : Nat) (a : Int), c.Fns.length - i = m → 0 ≤ a → a ≤ 65536 * i → f_r15_May_l0 a c (i : Int) = match mayRM c.Ins.length a (c.Fns.drop i) with | some e => f_r15_May_j1 e c | none => some ((false, ()), ()) := by
  intro m
  induction m with
  | zero =>
    intro i a hm h0 h1
    rw [f_r15_May_l0_eq, decide_eq_false (by omega), List.drop_eq_nil_of_le (by omega)]
    rfl
  | succ m ih =>
    intro i a hm h0 h1
    have hi : i < c.Fns.length := by omega
    have e1 : w64 ((i : Int) + 1) = ((i + 1 : Nat) : Int) := by rw [wrap64 (by omega) (by omega)]; omega
    rw [f_r15_May_l0_eq, decide_eq_true (by omega), getI_nat' hi, e1, List.drop_eq_getElem_cons hi, mayR_consM]
    generalize c.Fns[i] = x
    simp only [cond_true, Option.bind_some]
    by_cases hx : fnOkM x a ∧ x.Len ≤ (c.Ins.length : Int)
    · rw [if_pos hx, ← ih (i + 1) (a + x.Len) (by omega) (by have := hx.1.2.1; omega) (by have := hx.2; omega)]
      obtain ⟨⟨g1, g2, g3, g4, g5, g6, g7⟩, g8⟩ := hx
      rw [wrap64 (n := a + x.Len) (by omega) (by omega)]
      simp only [Bool.cond_eq_ite, decide_eq_true_eq, Bool.not_eq_true', decide_eq_false_iff_not]
      repeat' split
      all_goals first | rfl | (exfalso; omega)
    · rw [if_neg hx]
      unfold fnOkM at hx
      simp only [Bool.cond_eq_ite, decide_eq_true_eq, Bool.not_eq_true', decide_eq_false_iff_not]
      repeat' split
      all_goals first | rfl | (exfalso; omega)
theorem sum_allM {l : List (List UInt8)} (h : sumLM l ≤ 1048576) : (l.all fun s => decide ((s.length : Int) ≤ 1048576)) = true := by
  induction l with
  | nil => rfl
  | cons s l ih =>
    rw [sumL_consM] at h
    have := sumL_nnM l
    rw [List.all_cons, ih (by omega), decide_eq_true (by omega)]
    rfl
theorem ref_j1M (c : GApiCode) (c2 : c.Ins.length ≤ 65536) (c3 : c.Strs.length ≤ 65536) (h8 : ∀ x ∈ c.Ins, 0 ≤ x.Op) (e : Int) : f_r15_May_j1 e c = some ((decide (e = (c.Ins.length : Int)) && (c.Ins.all insOkM && decide (sumLM c.Strs ≤ 1048576)), ()), ()) := by
  have q2 := ref_strsM c c3 e _ 0 0 rfl (by omega) (by omega)
  rw [f_r15_May_j1_eq, show f_r15_May_l2 e 0 c 0 = _ from q2, List.drop_zero, Int.zero_add]
  by_cases hs : sumLM c.Strs ≤ 1048576
  · rw [sum_allM hs, if_pos rfl, f_r15_May_j3_eq, show f_r15_May_l4 e (sumLM c.Strs) c 0 = _ from ref_insM c c2 h8 e (sumLM c.Strs) _ 0 rfl, List.drop_zero, decide_eq_true hs]
    cases c.Ins.all insOkM with
    | true =>
      rw [if_pos rfl, f_r15_May_j5_eq, decide_eq_true hs]
      by_cases h : e = (c.Ins.length : Int)
      · rw [decide_eq_true h]; rfl
      · rw [decide_eq_false h]; rfl
    | false => rw [if_neg (by decide)]; simp
  · rw [decide_eq_false hs]
    simp only [Bool.and_false]
    split
    · rw [f_r15_May_j3_eq, show f_r15_May_l4 e (sumLM c.Strs) c 0 = _ from ref_insM c c2 h8 e (sumLM c.Strs) _ 0 rfl, List.drop_zero, f_r15_May_j5_eq, decide_eq_false hs]
      split
      · cases decide (e = (c.Ins.length : Int)) <;> rfl
      · rfl
    · rfl
end Go.Proofs.YtcmpcbpdnaodmaaDoor
