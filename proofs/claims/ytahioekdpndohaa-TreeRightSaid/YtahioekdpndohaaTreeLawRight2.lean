/- TreeRight: the program's and the document's conditions are the same. -/
import Derived.Test.YtahioekdpndohaaTreeLawRight
namespace Go.Proofs.Ytahioekdpndohaa
open Go.RowKit
set_option linter.unusedVariables false
theorem fam_spec {l : List GApiNode} (hl : l.length ≤ 100000) {i : Nat} (hi : i < l.length) (hw : WF l i) : hindcastref05_family l (i : Int) = some (famB (nodeAt l i).Kind (nodeAt l i).Num (decide (i = 0)) (kindsOf l i)) := by
  obtain ⟨hk1, hk2⟩ := kidsS_ok hl hw
  unfold hindcastref05_family
  rw [(kids_spec hl hw).2, obind_some]
  have hks : kindsOf l i = (kidsS l i).map fun e => (nodeAt l e).Kind := rfl
  have hkl : (kindsOf l i).length = (kidsS l i).length := by rw [hks]; simp
  generalize hr : kidsS l i = r at *
  have loop : ∀ (n j : Nat) (w : List Int), r.length - j ≤ n → j ≤ r.length → w.length ≤ j → hindcastref05_family_l0 l (i : Int) r (j : Int) w = hindcastref05_family_j1 l (i : Int) r (w ++ (((r.drop j).map fun e => (nodeAt l e).Kind).map srt).map fun b => (b.toNat : Int)) := by
    have stop : ∀ (j : Nat) (w : List Int), j = r.length → hindcastref05_family_l0 l (i : Int) r (j : Int) w = hindcastref05_family_j1 l (i : Int) r (w ++ (((r.drop j).map fun e => (nodeAt l e).Kind).map srt).map fun b => (b.toNat : Int)) := fun j w hj => by
      rw [hindcastref05_family_l0_eq, if_neg (by omega), List.drop_eq_nil_of_le (by omega)]; simp
    intro n
    induction n with
    | zero => intro j w h1 h2 h3; exact stop j w (by omega)
    | succ n ih =>
      intro j w h1 h2 h3
      by_cases h : j < r.length
      · obtain ⟨k, hk, hkl'⟩ := hk1 r[j] (List.getElem_mem _)
        rw [hindcastref05_family_l0_eq, if_pos (by omega), getI_nat' h, obind_some, hk, nodeAt_get hkl', obind_some, sort_spec, obind_some, if_pos (by unfold AppOb maxLen; simp; omega), wrap64 (by omega) (by omega), show (j : Int) + 1 = ((j + 1 : Nat) : Int) by omega, ih (j + 1) _ (by omega) (by omega) (by simp; omega), List.drop_eq_getElem_cons h, hk]
        simp
      · exact stop j w (by omega)
  have h0 := loop r.length 0 [] (by omega) (by omega) (by simp)
  have h0' : hindcastref05_family_l0 l (i : Int) r 0 [] = _ := h0
  rw [h0', List.nil_append, List.drop_zero, ← hks, hindcastref05_family_j1_eq, if_pos (intsS _).2]
  by_cases hz : (r.length : Int) > 0
  · have hr0 : 0 < r.length := by omega
    obtain ⟨k, hk, hkl'⟩ := hk1 r[0] (List.getElem_mem _)
    have hg : getI r 0 = some (k : Int) := by have := getI_nat' (i := 0) hr0; rw [hk] at this; exact this
    rw [if_pos hz, hg, obind_some, nodeAt_get hkl', obind_some]
    have hh : (nodeAt l (k : Int)).Kind = (kindsOf l i).headD 0 := by
      rw [hks]
      cases hrr : r with
      | nil => rw [hrr] at hr0; simp at hr0
      | cons e r' =>
        simp only [hrr, List.getElem_cons_zero] at hk
        simp [hk]
    rw [hh]
    exact fam_j2 l hi (kindsOf l i) (by omega) _ _ _ _ _
  · have hr0 : r = [] := List.eq_nil_of_length_eq_zero (by omega)
    have hkn : kindsOf l i = [] := List.eq_nil_of_length_eq_zero (by rw [hkl, hr0]; rfl)
    rw [if_neg hz]
    have := fam_j2 l hi (kindsOf l i) (by omega) 0 0 0 0 []
    rw [hkn] at this ⊢
    exact this
/-- The letter c stands for p. -/
def Lets (p : Int → Bool) (c : UInt8) : Prop := ∀ k, p k = (srt k == c)
theorem lets_t : Lets isT 116 := fun k => by
  unfold isT btw srt
  by_cases h : 15 ≤ k ∧ k ≤ 20
  · have : k ≠ 14 := by omega
    simp [h, this]
  · rw [if_neg h]
    have e : (decide ((15 : Int) ≤ k) && decide (k ≤ 20)) = false := by simp; omega
    rw [e]
    repeat' split
    all_goals rfl
theorem lets_e : Lets isE 101 := fun k => by
  unfold isE btw srt
  by_cases h : 21 ≤ k ∧ k ≤ 32
  · have : k ≠ 14 := by omega
    have : ¬ (15 ≤ k ∧ k ≤ 20) := by omega
    simp [h, *]
  · rw [if_neg h]
    have e : (decide ((21 : Int) ≤ k) && decide (k ≤ 32)) = false := by simp; omega
    rw [e]
    repeat' split
    all_goals rfl
theorem lets_b : Lets isB 98 := fun k => by
  unfold isB srt
  by_cases h : k = 6
  · subst h; rfl
  · rw [if_neg h, show decide (k = 6) = false from decide_eq_false h]
    repeat' split
    all_goals rfl
theorem lets_s : Lets (btw 7 13) 115 := fun k => by
  unfold btw srt
  by_cases h : 7 ≤ k ∧ k ≤ 13
  · have : k ≠ 14 := by omega
    have : ¬ (15 ≤ k ∧ k ≤ 20) := by omega
    have : ¬ (21 ≤ k ∧ k ≤ 32) := by omega
    simp [h, *]
  · rw [if_neg h]
    have e : (decide ((7 : Int) ≤ k) && decide (k ≤ 13)) = false := by simp; omega
    rw [e]
    repeat' split
    all_goals rfl
theorem lets_p : Lets [5].contains 112 := fun k => by
  by_cases h : k = 5
  · subst h; rfl
  · have e : ([5] : List Int).contains k = false := by simp [h]
    rw [e]; unfold srt; rw [if_neg h]
    repeat' split
    all_goals rfl
theorem lets_f : Lets [3].contains 102 := fun k => by
  by_cases h : k = 3
  · subst h; rfl
  · have e : ([3] : List Int).contains k = false := by simp [h]
    rw [e]; unfold srt; rw [if_neg h]
    repeat' split
    all_goals rfl
theorem lets_d : Lets [2, 4].contains 100 := fun k => by
  by_cases h : k = 2 ∨ k = 4
  · rcases h with h | h <;> subst h <;> rfl
  · have e : ([2, 4] : List Int).contains k = false := by simp; omega
    rw [e]; unfold srt; rw [if_neg h]
    repeat' split
    all_goals rfl
theorem srt_14 (k : Int) : (srt k == 48) = decide (k = 14) := by
  by_cases h : k = 14
  · subst h; rfl
  · rw [show decide (k = 14) = false from decide_eq_false h]; unfold srt; rw [if_neg h]
    repeat' split
    all_goals rfl
theorem all_lets {p : Int → Bool} {c : UInt8} (h : Lets p c) (ks : List Int) : ks.all p = (ks.map srt).all (· == c) := by
  rw [List.all_map]
  congr 1
  funext k
  exact h k
theorem row_nil (ks : List Int) : rowB [] ks = decide (ks.map srt = []) := by cases ks <;> simp [rowB]
theorem row_cons {p : Int → Bool} {c : UInt8} (h : Lets p c) {ps : List (Int → Bool)} {cs : List UInt8} (ih : ∀ ks, rowB ps ks = decide (ks.map srt = cs)) (ks : List Int) : rowB (p :: ps) ks = decide (ks.map srt = c :: cs) := by
  cases ks with
  | nil => simp [rowB]
  | cons k ks =>
    unfold rowB
    rw [h k, ih ks, List.map_cons]
    by_cases e : srt k = c <;> simp [e]
theorem row_e (ks : List Int) : rowB [isE] ks = decide (ks.map srt = [101]) := row_cons lets_e row_nil ks
theorem row_b (ks : List Int) : rowB [isB] ks = decide (ks.map srt = [98]) := row_cons lets_b row_nil ks
theorem row_t (ks : List Int) : rowB [isT] ks = decide (ks.map srt = [116]) := row_cons lets_t row_nil ks
theorem row_bb (ks : List Int) : rowB [isB, isB] ks = decide (ks.map srt = [98, 98]) := row_cons lets_b row_b ks
theorem row_in {p : Int → Bool} {c : UInt8} {xs : List Int} (hx : ∀ k, xs.contains k = true → srt k = c) {ps : List (Int → Bool)} {cs : List UInt8} (ih : ∀ ks, rowB ps ks = decide (ks.map srt = cs)) (ks : List Int) : rowB (xs.contains :: ps) ks = (decide (ks.map srt = c :: cs) && xs.contains (ks.headD 0)) := by
  cases ks with
  | nil => simp [rowB]
  | cons k ks =>
    unfold rowB
    rw [ih ks, List.map_cons, List.headD_cons]
    cases hq : xs.contains k with
    | false => simp
    | true => simp [hx k hq]
theorem stmt_fam (k num : Int) (top : Bool) (h : 7 ≤ k ∧ k ≤ 13) (ks : List Int) : stmtB k ks = famB k num top ks := by
  have : k = 7 ∨ k = 8 ∨ k = 9 ∨ k = 10 ∨ k = 11 ∨ k = 12 ∨ k = 13 := by omega
  unfold stmtB famB
  rcases this with h | h | h | h | h | h | h <;> subst h <;> simp
  · rw [row_cons lets_t row_e ks]
  · rw [row_in (p := isE) (c := 101) (fun k hk => by simp at hk; rcases hk with q | q | q <;> subst q <;> rfl) row_e ks]
    simp
  · rw [row_cons lets_e row_b ks, row_cons lets_e row_bb ks]
  · rw [row_cons lets_e row_b ks]
  · rw [row_nil ks, row_e ks]; simp
  · rw [row_e ks]
  · rw [row_in (p := isE) (c := 101) (fun k hk => by simp at hk; subst hk; rfl) row_nil ks]
    simp
theorem func_fam (num : Int) (top : Bool) (ks : List Int) : funcB num ks = famB 4 num top ks := by
  unfold funcB famB
  simp only [List.length_map, show ((4 : Int) = 1) = False by simp, show ((4 : Int) = 2) = False by simp, show ((4 : Int) = 3 ∨ (4 : Int) = 5 ∨ (4 : Int) = 20) = False by simp, if_false, if_true]
  by_cases h2 : 2 ≤ ks.length
  · simp only [decide_eq_true h2, Bool.true_and]
    have g1 : ks[ks.length - 1]? = some (ks[ks.length - 1]'(by omega)) := List.getElem?_eq_getElem (by omega)
    have g2 : ks[ks.length - 2]? = some (ks[ks.length - 2]'(by omega)) := List.getElem?_eq_getElem (by omega)
    rw [List.getElem?_map, List.getElem?_map, g1, g2, ← List.map_take, ← all_lets lets_p]
    generalize (ks.take (ks.length - 2)).all [5].contains = R
    generalize ks[ks.length - 1]'(by omega) = a
    generalize ks[ks.length - 2]'(by omega) = b
    simp only [Option.map_some, Option.some.injEq]
    have e1 : decide (a = 6) = decide (srt a = 98) := by have := lets_b a; unfold isB at this; rw [this]; by_cases q : srt a = 98 <;> simp [q]
    have e2 : decide (b = 14) = decide (srt b = 48) := by have := srt_14 b; rw [← this]; by_cases q : srt b = 48 <;> simp [q]
    have e3 : isT b = decide (srt b = 116) := by rw [lets_t b]; by_cases q : srt b = 116 <;> simp [q]
    rw [e1, e2, e3]
    generalize decide (srt a = 98) = p1
    generalize decide (srt b = 48) = p2
    generalize decide (srt b = 116) = p3
    cases decide ((ks.length : Int) - 2 = num) <;> cases p1 <;> cases p2 <;> cases p3 <;> cases R <;> rfl
  · simp only [decide_eq_false h2, Bool.false_and]
theorem right_fam (k num : Int) (ks : List Int) : rightB k num ks = famB k num false ks := by
  by_cases h7 : 7 ≤ k ∧ k ≤ 13
  · rw [← stmt_fam k num false h7 ks]
    unfold rightB
    rw [if_neg (by omega), if_neg (by omega), if_neg (by omega), if_neg (by omega), if_pos h7]
  by_cases h4 : k = 4
  · subst h4
    rw [← func_fam]
    unfold rightB
    simp
  unfold rightB famB
  dsimp only
  by_cases h1 : k = 1
  · subst h1; simp
  by_cases h2 : k = 2
  · subst h2; simp [all_lets lets_f]
  by_cases h3 : k = 3 ∨ k = 5 ∨ k = 20
  · rcases h3 with q | q | q <;> subst q <;> simp [row_t]
  by_cases h6 : k = 6
  · subst h6; simp [all_lets lets_s]
  by_cases h27 : k = 27
  · subst h27; simp [all_lets lets_e]
  by_cases h28 : k = 28 ∨ k = 31
  · rcases h28 with q | q <;> subst q <;> simp [row_cons lets_e row_e]
  by_cases h29 : k = 29 ∨ k = 30
  · rcases h29 with q | q <;> subst q <;> simp [row_e]
  by_cases h32 : k = 32
  · subst h32
    simp
    rw [row_in (p := isE) (c := 116) (fun k hk => by simp at hk; subst hk; rfl) row_nil ks, row_in (p := isE) (c := 116) (fun k hk => by simp at hk; subst hk; rfl) row_e ks]
    simp
  have n : ∀ q : Int, 7 ≤ q → q ≤ 13 → k ≠ q := fun q h1 h2 e => h7 (by omega)
  obtain ⟨h3a, h3b, h3c⟩ : k ≠ 3 ∧ k ≠ 5 ∧ k ≠ 20 := by omega
  obtain ⟨h28a, h28b⟩ : k ≠ 28 ∧ k ≠ 31 := by omega
  obtain ⟨h29a, h29b⟩ : k ≠ 29 ∧ k ≠ 30 := by omega
  simp only [h1, h2, h3a, h3b, h3c, h4, h6, h7, h27, h28a, h28b, h29a, h29b, h32, n 7, n 8, n 9, n 10, n 11, n 12, n 13, Int.reduceLE, if_false, or_self, not_false_eq_true, ne_eq, row_nil]
  by_cases h14 : 14 ≤ k ∧ k ≤ 26 <;> simp [h14]
/-- What the document asks of node i. -/
def DocAt (l : List GApiNode) (i : Nat) : Prop := rfieldB (nodeAt l i) = true ∧ famB (nodeAt l i).Kind (nodeAt l i).Num (decide (i = 0)) (kindsOf l i) = true
theorem doc_ok {l : List GApiNode} {i : Nat} (h : i ≠ 0) : DocAt l i ↔ OkAt l i := by
  unfold DocAt OkAt
  rw [show decide (i = 0) = false from decide_eq_false h, ← right_fam]
  unfold rfieldB
  constructor
  · rintro ⟨h1, h2⟩
    refine ⟨fun q => absurd q h, fun _ => ⟨?_, h2⟩⟩
    by_cases h4 : (nodeAt l i).Kind = 4
    · rw [if_pos h4] at h1
      rw [h4] at h2
      unfold fieldsB
      rw [if_neg (by omega), if_neg (by omega), if_pos h4, h1, Bool.true_and]
      unfold rightB funcB at h2
      simp at h2
      have := h2.1
      have := h2.2.1
      simp; omega
    · rw [if_neg h4] at h1; exact h1
  · rintro ⟨_, h2⟩
    obtain ⟨h3, h4⟩ := h2 h
    refine ⟨?_, h4⟩
    by_cases q : (nodeAt l i).Kind = 4
    · rw [if_pos q]
      unfold fieldsB at h3
      rw [if_neg (by omega), if_neg (by omega), if_pos q] at h3
      simp at h3
      exact h3.1
    · rw [if_neg q]; exact h3
theorem doc_top {l : List GApiNode} (h : (nodeAt l 0).Kind = 1) : DocAt l 0 ↔ fieldsB (nodeAt l 0) = true ∧ OkAt l 0 := by
  unfold DocAt OkAt rfieldB
  have h4 : ¬ (nodeAt l ((0 : Nat) : Int)).Kind = 4 := by show ¬ (nodeAt l 0).Kind = 4; omega
  have h1 : (nodeAt l ((0 : Nat) : Int)).Kind = 1 := h
  rw [if_neg h4, h1]
  have : famB 1 (nodeAt l ((0 : Nat) : Int)).Num (decide (0 = 0)) (kindsOf l 0) = (kindsOf l 0).all [2, 4].contains := by
    rw [all_lets lets_d]; unfold famB; simp
  rw [this]
  simp
section
variable {l : List GApiNode} (hl : l.length ≤ 100000) (ht : ∀ x ∈ l, x.Text.length ≤ 10000)
include hl ht
omit hl in
theorem nodeAt_text {i : Nat} (h : i < l.length) : (nodeAt l (i : Int)).Text.length ≤ 10000 := by
  have : nodeAt l (i : Int) = l[i] := by simp [nodeAt, h]
  rw [this]
  exact ht _ (List.getElem_mem _)
theorem refMay_l0 (hr : RightP l) : ∀ (n i : Nat), l.length - i ≤ n → ∃ b, hindcastref05_May_l0 l (i : Int) = some b ∧ (b = true ↔ ∀ j : Nat, i ≤ j → j < l.length → DocAt l j) := by
  intro n
  have stop : ∀ i : Nat, l.length ≤ i → ∃ b, hindcastref05_May_l0 l (i : Int) = some b ∧ (b = true ↔ ∀ j : Nat, i ≤ j → j < l.length → DocAt l j) := fun i hi =>
    ⟨true, by rw [hindcastref05_May_l0_eq, if_neg (by omega), hindcastref05_May_j1_eq], by simp; intro j h1 h2; omega⟩
  induction n with
  | zero => intro i hi; exact stop i (by omega)
  | succ n ih =>
    intro i hi
    by_cases h : i < l.length
    · have hw := hr.wf h
      obtain ⟨b, hb, hbb⟩ := ih (i + 1) (by omega)
      have split : (∀ j : Nat, i ≤ j → j < l.length → DocAt l j) ↔ DocAt l i ∧ ∀ j : Nat, i + 1 ≤ j → j < l.length → DocAt l j := by
        constructor
        · intro q; exact ⟨q i (Nat.le_refl _) h, fun j h1 h2 => q j (by omega) h2⟩
        · rintro ⟨q1, q2⟩ j h1 h2
          by_cases e : j = i
          · subst e; exact q1
          · exact q2 j (by omega) h2
      rw [split, hindcastref05_May_l0_eq, if_pos (by omega), nodeAt_get h, obind_some, rfield_spec _ (nodeAt_text ht h), obind_some]
      by_cases h1 : rfieldB (nodeAt l i) = true
      · rw [if_pos h1, fam_spec hl h hw, obind_some]
        by_cases h2 : famB (nodeAt l i).Kind (nodeAt l i).Num (decide (i = 0)) (kindsOf l i) = true
        · rw [if_pos h2, wrap64 (by omega) (by omega), show (i : Int) + 1 = ((i + 1 : Nat) : Int) by omega]
          exact ⟨b, hb, hbb.trans ⟨fun q => ⟨⟨h1, h2⟩, q⟩, fun q => q.2⟩⟩
        · rw [if_neg h2]
          exact ⟨false, rfl, ⟨fun q => Bool.noConfusion q, fun q => absurd q.1.2 h2⟩⟩
      · rw [if_neg h1]
        exact ⟨false, rfl, ⟨fun q => Bool.noConfusion q, fun q => absurd q.1.1 h1⟩⟩
    · exact stop i (by omega)
theorem refMay_spec : ∃ b, hindcastref05_May l = some b ∧ (b = true ↔ MayP l) := by
  unfold hindcastref05_May
  obtain ⟨b, hb, hbb⟩ := refRight_spec hl
  rw [hb, obind_some]
  cases b with
  | false => exact ⟨false, rfl, ⟨fun q => Bool.noConfusion q, fun q => Bool.noConfusion (hbb.2 q.1)⟩⟩
  | true =>
    have hr : RightP l := hbb.1 rfl
    have hg : getI l 0 = some (nodeAt l 0) := nodeAt_get (i := 0) hr.1
    rw [if_pos rfl, hg, obind_some]
    by_cases h1 : (nodeAt l 0).Kind = 1
    · rw [if_pos h1]
      obtain ⟨c, hc, hcc⟩ := refMay_l0 hl ht hr l.length 0 (by omega)
      refine ⟨c, hc, hcc.trans ⟨fun q => ?_, fun q => fun j _ hj => ?_⟩⟩
      · obtain ⟨q1, q2⟩ := (doc_top h1).1 (q 0 (Nat.le_refl _) hr.1)
        refine ⟨hr, h1, q1, fun i hi => ?_⟩
        by_cases e : i = 0
        · subst e; exact q2
        · exact (doc_ok e).1 (q i (Nat.zero_le _) hi)
      · by_cases e : j = 0
        · subst e; exact (doc_top h1).2 ⟨q.2.2.1, q.2.2.2 0 hj⟩
        · exact (doc_ok e).2 (q.2.2.2 j hj)
    · rw [if_neg h1]
      exact ⟨false, rfl, ⟨fun q => Bool.noConfusion q, fun q => absurd q.2.1 h1⟩⟩
end
/-- So many are gone through. -/
theorem many_loop (l : List GApiNode) (hx : l.length ≤ maxLen ∧ ∀ x ∈ l, x.Text.length ≤ maxLen) : ∀ (n i : Nat) (c : Int), l.length - i ≤ n → (i : Int) ≤ c → c ≤ 4000 → i ≤ l.length → ∃ b, hindcastref05_Many_l0 l c (i : Int) = some b ∧ (b = false → l.length ≤ 4000 ∧ ∀ j (h : j < l.length), i ≤ j → l[j].Text.length ≤ 4000) := by
  intro n
  have stop : ∀ (i : Nat) (c : Int), i = l.length → (i : Int) ≤ c → c ≤ 4000 → ∃ b, hindcastref05_Many_l0 l c (i : Int) = some b ∧ (b = false → l.length ≤ 4000 ∧ ∀ j (h : j < l.length), i ≤ j → l[j].Text.length ≤ 4000) := fun i c hi h1 h2 =>
    ⟨false, by rw [hindcastref05_Many_l0_eq, if_neg (by omega), hindcastref05_Many_j1_eq], fun _ => ⟨by omega, fun j h hj => by omega⟩⟩
  induction n with
  | zero => intro i c h1 h2 h3 h4; exact stop i c (by omega) h2 h3
  | succ n ih =>
    intro i c h1 h2 h3 h4
    by_cases h : i < l.length
    · rw [hindcastref05_Many_l0_eq, if_pos (by omega), getI_nat' h, obind_some]
      have hm : ∃ m : Int, (if (5000 : Int) < (l[i].Text.length : Int) then 5000 else (l[i].Text.length : Int)) = m ∧ 0 ≤ m ∧ m ≤ 5000 ∧ (m ≤ 4000 → l[i].Text.length ≤ 4000) := by
        split
        · exact ⟨_, rfl, by omega, by omega, fun q => by omega⟩
        · exact ⟨_, rfl, by omega, by omega, fun q => by omega⟩
      obtain ⟨m, e, m0, m1, m2⟩ := hm
      rw [e, wrap64 (n := 1 + m) (by omega) (by omega), wrap64 (n := c + (1 + m)) (by omega) (by omega)]
      by_cases hc : c + (1 + m) > 4000
      · rw [if_pos hc]; exact ⟨true, rfl, fun q => Bool.noConfusion q⟩
      · rw [if_neg hc, wrap64 (by omega) (by omega), show (i : Int) + 1 = ((i + 1 : Nat) : Int) by omega]
        obtain ⟨b, hb, hbb⟩ := ih (i + 1) (c + (1 + m)) (by omega) (by omega) (by omega) (by omega)
        refine ⟨b, hb, fun q => ⟨(hbb q).1, fun j hj hij => ?_⟩⟩
        by_cases e : j = i
        · subst e; exact m2 (by omega)
        · exact (hbb q).2 j hj (by omega)
    · exact stop i c (by omega) h2 h3
theorem many_spec (l : List GApiNode) (h : l.length ≤ maxLen ∧ ∀ x ∈ l, ok_GApiNode x) : ∃ b, hindcastref05_Many l = some b ∧ (b = false → l.length ≤ 4000 ∧ ∀ x ∈ l, x.Text.length ≤ 4000) := by
  unfold hindcastref05_Many
  obtain ⟨b, hb, hbb⟩ := many_loop l ⟨h.1, fun x hx => (h.2 x hx).2.2.2.2.2⟩ l.length 0 0 (by omega) (by omega) (by omega) (by omega)
  refine ⟨b, hb, fun q => ⟨(hbb q).1, fun x hx => ?_⟩⟩
  obtain ⟨j, hj, rfl⟩ := List.getElem_of_mem hx
  exact (hbb q).2 j hj (Nat.zero_le _)
theorem treeRight_all (l : List GApiNode) (h : l.length ≤ maxLen ∧ ∀ x ∈ l, ok_GApiNode x) : hindcastlaw05_TreeRight l = some true := by
  unfold hindcastlaw05_TreeRight
  obtain ⟨p, hp, hpp⟩ := many_spec l h
  rw [hp, obind_some]
  cases p with
  | true => rw [if_pos rfl, awake_true, obind_some]
  | false =>
    obtain ⟨l1, l2⟩ := hpp rfl
    have hl : l.length ≤ 100000 := by omega
    have ht : ∀ x ∈ l, x.Text.length ≤ 10000 := fun x hx => by have := l2 x hx; omega
    obtain ⟨a, ha, haa⟩ := right_spec hl
    obtain ⟨b, hb, hbb⟩ := refRight_spec hl
    obtain ⟨c, hc, hcc⟩ := may_spec hl
    obtain ⟨d, hd, hdd⟩ := refMay_spec hl ht
    have e1 : a = b := by rw [Bool.eq_iff_iff, haa, hbb]
    have e2 : c = d := by rw [Bool.eq_iff_iff, hcc, hdd]
    subst e1; subst e2
    rw [if_neg (by simp), ha, obind_some, hb, obind_some, if_pos (by simp), hc, obind_some, hd, obind_some, if_pos (by simp), awake_true, obind_some]
end Go.Proofs.Ytahioekdpndohaa
