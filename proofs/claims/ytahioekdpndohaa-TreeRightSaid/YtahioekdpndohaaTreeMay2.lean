/- Whether a node's children may be; whether a row is a program's tree. -/
import Derived.Test.YtahioekdpndohaaTreeMay
namespace Go.Proofs.Ytahioekdpndohaa
open Go.RowKit
set_option linter.unusedVariables false
def funcB (num : Int) (ks : List Int) : Bool :=
  decide (2 ≤ ks.length) && (decide ((ks.length : Int) - 2 = num) && (decide (ks[ks.length - 1]? = some 6) && ((decide (ks[ks.length - 2]? = some 14) || (match ks[ks.length - 2]? with | some k => isT k | none => false)) && (ks.take (ks.length - 2)).all [5].contains)))
def stmtB (k : Int) (ks : List Int) : Bool :=
  if k = 7 then rowB [isT, isE] ks
  else if k = 8 then rowB [[26, 28, 29].contains, isE] ks
  else if k = 9 then rowB [isE, isB] ks || rowB [isE, isB, isB] ks
  else if k = 10 then rowB [isE, isB] ks
  else if k = 11 then rowB [] ks || rowB [isE] ks
  else if k = 12 then rowB [isE] ks
  else rowB [[27].contains] ks
def rightB (k num : Int) (ks : List Int) : Bool :=
  if k = 2 then ks.all [3].contains
  else if k = 3 ∨ k = 5 ∨ k = 20 then rowB [isT] ks
  else if k = 4 then funcB num ks
  else if k = 6 then ks.all (btw 7 13)
  else if 7 ≤ k ∧ k ≤ 13 then stmtB k ks
  else if k = 27 then ks.all isE
  else if k = 28 ∨ k = 31 then rowB [isE, isE] ks
  else if k = 29 ∨ k = 30 then rowB [isE] ks
  else if k = 32 then rowB [[19].contains] ks || rowB [[20].contains, isE] ks
  else if 14 ≤ k ∧ k ≤ 26 then rowB [] ks
  else false
theorem stmt_spec (x : GApiNode) (kids : List GApiNode) : tree_look_statement (GTreeLook.mk x kids) = some (stmtB x.Kind (kids.map (·.Kind))) := by
  unfold tree_look_statement stmtB
  show (if x.Kind = 7 then _ else _) = _
  obtain ⟨f8, e8, t8⟩ := of_spec [26, 28, 29] (by decide)
  obtain ⟨f13, e13, t13⟩ := of_spec [27] (by decide)
  by_cases h7 : x.Kind = 7
  · rw [if_pos h7, if_pos h7, row2 (someType_tells _ _) (expression_tells _ _)]; rfl
  rw [if_neg h7, if_neg h7]
  by_cases h8 : x.Kind = 8
  · rw [if_pos h8, if_pos h8, e8, obind_some, row2 t8 (expression_tells _ _)]; rfl
  rw [if_neg h8, if_neg h8]
  by_cases h9 : x.Kind = 9
  · rw [if_pos h9, if_pos h9, row2 (expression_tells _ _) (block_tells _ _), obind_some, row3 (expression_tells _ _) (block_tells _ _) (block_tells _ _), obind_some]
    cases rowB [isE, isB] (kids.map (·.Kind)) <;> simp
  rw [if_neg h9, if_neg h9]
  by_cases h10 : x.Kind = 10
  · rw [if_pos h10, if_pos h10, row2 (expression_tells _ _) (block_tells _ _)]; rfl
  rw [if_neg h10, if_neg h10]
  by_cases h11 : x.Kind = 11
  · rw [if_pos h11, if_pos h11, row0, obind_some, row1 (expression_tells _ _), obind_some]
    cases rowB [] (kids.map (·.Kind)) <;> simp
  rw [if_neg h11, if_neg h11]
  by_cases h12 : x.Kind = 12
  · rw [if_pos h12, if_pos h12, row1 (expression_tells _ _)]; rfl
  rw [if_neg h12, if_neg h12, e13, obind_some, row1 t13]; rfl
theorem func_spec (x : GApiNode) (kids : List GApiNode) (hk : kids.length ≤ 200000) : tree_look_function (GTreeLook.mk x kids) = some (funcB x.Num (kids.map (·.Kind))) := by
  unfold tree_look_function tree_look_function_j0 funcB
  dsimp only
  rw [List.length_map]
  by_cases h : kids.length < 2
  · rw [if_pos (by omega)]
    have : ¬ 2 ≤ kids.length := by omega
    simp [this]
  · rw [if_neg (by omega), wrap64 (n := (kids.length : Int) - 2) (by omega) (by omega), wrap64 (n := (kids.length : Int) - 1) (by omega) (by omega)]
    have h2 : 2 ≤ kids.length := by omega
    rw [show decide (2 ≤ kids.length) = true from decide_eq_true h2, Bool.true_and]
    by_cases hn : (kids.length : Int) - 2 = x.Num
    · rw [if_pos hn, show decide ((kids.length : Int) - 2 = x.Num) = true from decide_eq_true hn, Bool.true_and]
      have g1 : getI kids ((kids.length : Int) - 1) = some (kids[kids.length - 1]'(by omega)) := by
        rw [show (kids.length : Int) - 1 = ((kids.length - 1 : Nat) : Int) by omega]; exact getI_nat' (by omega)
      have g2 : getI kids ((kids.length : Int) - 2) = some (kids[kids.length - 2]'(by omega)) := by
        rw [show (kids.length : Int) - 2 = ((kids.length - 2 : Nat) : Int) by omega]; exact getI_nat' (by omega)
      rw [g1, g2, obind_some, obind_some]
      have m1 : (kids.map (·.Kind))[kids.length - 1]? = some (kids[kids.length - 1]'(by omega)).Kind := by rw [List.getElem?_map, List.getElem?_eq_getElem (by omega)]; rfl
      have m2 : (kids.map (·.Kind))[kids.length - 2]? = some (kids[kids.length - 2]'(by omega)).Kind := by rw [List.getElem?_map, List.getElem?_eq_getElem (by omega)]; rfl
      rw [m1, m2]
      generalize (kids[kids.length - 1]'(by omega)) = y1
      generalize (kids[kids.length - 2]'(by omega)) = y2
      have hs : tree_someType y2 = some (isT y2.Kind) := by
        obtain ⟨f, h1, h2⟩ := between_spec 15 20
        unfold tree_someType
        rw [h1, obind_some, h2 y2, obind_some]; rfl
      obtain ⟨f5, e5, t5⟩ := of_spec [5] (by decide)
      have hc : CutR 0 ((kids.length : Int) - 2) kids.length := by unfold CutR; omega
      have hcut : cutL kids 0 ((kids.length : Int) - 2) = kids.take (kids.length - 2) := by
        unfold cutL; simp; congr 1; omega
      have hj : (if CutR 0 ((kids.length : Int) - 2) kids.length then (tree_of [5]).bind fun r4_9 => (tree_look_all (GTreeLook.mk x (cutL kids 0 ((kids.length : Int) - 2))) r4_9).bind fun r4_10 => some r4_10 else none) = some (((kids.map (·.Kind)).take (kids.length - 2)).all [5].contains) := by
        rw [if_pos hc, e5, obind_some, hcut, all_spec t5 x _ (by simp; omega), obind_some, List.map_take]
      rw [hj, hs, show tree_block y1 = some (decide (y1.Kind = 6)) from rfl, obind_some, obind_some]
      generalize ((kids.map (·.Kind)).take (kids.length - 2)).all [5].contains = R
      simp only [Option.some.injEq]
      by_cases h6 : y1.Kind = 6
      · by_cases h14 : y2.Kind = 14
        · simp [h6, h14]
        · simp only [h6, h14, decide_true, decide_false, if_true, if_false, Bool.true_and, Bool.false_or]
          cases isT y2.Kind <;> simp
      · simp [h6]
    · rw [if_neg hn, show decide ((kids.length : Int) - 2 = x.Num) = false from decide_eq_false hn]; simp
theorem right_spec' (x : GApiNode) (kids : List GApiNode) (hk : kids.length ≤ 200000) : tree_look_right (GTreeLook.mk x kids) = some (rightB x.Kind x.Num (kids.map (·.Kind))) := by
  unfold tree_look_right tree_look_right_j0 tree_look_right_j1 tree_look_right_j2 tree_look_right_j3 tree_look_right_j4 rightB
  dsimp only
  obtain ⟨f3, e3, t3⟩ := of_spec [3] (by decide)
  obtain ⟨f19, e19, t19⟩ := of_spec [19] (by decide)
  obtain ⟨f20, e20, t20⟩ := of_spec [20] (by decide)
  obtain ⟨f7, e7, t7⟩ := between_spec 7 13
  rw [e3, e19, e20, e7, obind_some, obind_some, obind_some, obind_some, all_spec t3 x kids hk, all_spec t7 x kids hk, row1 t19, row2 t20 (expression_tells _ _), func_spec x kids hk, stmt_spec, row2 (expression_tells _ _) (expression_tells _ _), row1 (expression_tells _ _), row1 (someType_tells _ _), row0, all_spec (expression_tells _ _) x kids hk]
  simp only [obind_some]
  generalize hk' : x.Kind = k
  generalize funcB x.Num (kids.map (·.Kind)) = F
  generalize rowB [[19].contains] (kids.map (·.Kind)) = R19
  generalize rowB [[20].contains, isE] (kids.map (·.Kind)) = R20
  have hor : (if R19 = true then some true else some R20) = some (R19 || R20) := by cases R19 <;> simp
  rw [hor]
  by_cases h2 : k = 2
  · subst h2; simp
  by_cases h3 : k = 3
  · subst h3; simp
  by_cases h5 : k = 5
  · subst h5; simp
  by_cases h20 : k = 20
  · subst h20; simp
  by_cases h4 : k = 4
  · subst h4; simp
  by_cases h6 : k = 6
  · subst h6; simp
  by_cases h7 : 7 ≤ k ∧ k ≤ 13
  · have : k = 7 ∨ k = 8 ∨ k = 9 ∨ k = 10 ∨ k = 11 ∨ k = 12 ∨ k = 13 := by omega
    rcases this with h | h | h | h | h | h | h <;> subst h <;> simp
  by_cases h27 : k = 27
  · subst h27; simp
  by_cases h28 : k = 28
  · subst h28; simp
  by_cases h31 : k = 31
  · subst h31; simp
  by_cases h29 : k = 29
  · subst h29; simp
  by_cases h30 : k = 30
  · subst h30; simp
  by_cases h32 : k = 32
  · subst h32; simp
  by_cases h14 : 14 ≤ k ∧ k ≤ 26
  · have : k = 14 ∨ k = 15 ∨ k = 16 ∨ k = 17 ∨ k = 18 ∨ k = 19 ∨ k = 21 ∨ k = 22 ∨ k = 23 ∨ k = 24 ∨ k = 25 ∨ k = 26 := by omega
    rcases this with h | h | h | h | h | h | h | h | h | h | h | h <;> subst h <;> simp
  · have n : ∀ q : Int, 7 ≤ q → q ≤ 13 → k ≠ q := fun q h1 h2 e => h7 (by omega)
    have m : ∀ q : Int, 14 ≤ q → q ≤ 26 → k ≠ q := fun q h1 h2 e => h14 (by omega)
    simp [h2, h3, h5, h20, h4, h6, h7, h27, h28, h31, h29, h30, h32, h14, n 7, n 8, n 9, n 10, n 11, n 12, n 13, m 14, m 15, m 16, m 17, m 18, m 19, m 21, m 22, m 23, m 24, m 25, m 26]
end Go.Proofs.Ytahioekdpndohaa
