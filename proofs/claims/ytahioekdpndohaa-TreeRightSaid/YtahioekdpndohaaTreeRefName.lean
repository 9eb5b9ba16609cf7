/- Which texts are names, and great ones: what the document says. -/
import Derived.Test.YtahioekdpndohaaTreeMay3
namespace Go.Proofs.Ytahioekdpndohaa
open Go.RowKit
set_option linter.unusedVariables false
def kindS (b : UInt8) : Int := if small b = true then 1 else if big b = true then 2 else if digit b = true then 3 else 0
theorem kind_spec (b : UInt8) : hindcastref04_kind (b.toNat : Int) = some (kindS b) := by
  unfold hindcastref04_kind hindcastref04_kind_j1 hindcastref04_kind_j0 hindcastref04_kind_j2 kindS small big digit
  have := b.toNat_lt
  by_cases h1 : (b.toNat : Int) ≥ 97 ∧ (b.toNat : Int) ≤ 122
  · have : (97 ≤ b.toNat ∧ b.toNat ≤ 122) := by omega
    rw [if_pos h1.1, if_pos h1.2]; simp [this]
  by_cases h2 : (b.toNat : Int) = 95
  · have : b.toNat = 95 := by omega
    rw [if_neg (by omega), if_pos h2]; simp [this]
  have n95 : ¬ b.toNat = 95 := by omega
  have nsm : ¬ (97 ≤ b.toNat ∧ b.toNat ≤ 122) := by omega
  have hs : ((b.toNat == 95) || (decide (97 ≤ b.toNat) && decide (b.toNat ≤ 122))) = false := by simp; omega
  rw [hs]
  have e : ∀ X : Option Int, (if (b.toNat : Int) ≥ 97 then (if (b.toNat : Int) ≤ 122 then some 1 else (if (b.toNat : Int) = 95 then some 1 else X)) else (if (b.toNat : Int) = 95 then some 1 else X)) = X := fun X => by
    by_cases q : (b.toNat : Int) ≥ 97
    · rw [if_pos q, if_neg (by omega), if_neg h2]
    · rw [if_neg q, if_neg h2]
  rw [e]
  by_cases h3 : (b.toNat : Int) ≥ 65 ∧ (b.toNat : Int) ≤ 90
  · have : (65 ≤ b.toNat ∧ b.toNat ≤ 90) := by omega
    rw [if_pos h3.1, if_pos h3.2]; simp [this]
  have hb : (decide (65 ≤ b.toNat) && decide (b.toNat ≤ 90)) = false := by simp; omega
  rw [hb]
  have e2 : ∀ X : Option Int, (if (b.toNat : Int) ≥ 65 then (if (b.toNat : Int) ≤ 90 then some 2 else X) else X) = X := fun X => by
    by_cases q : (b.toNat : Int) ≥ 65
    · rw [if_pos q, if_neg (by omega)]
    · rw [if_neg q]
  rw [e2]
  by_cases h4 : (b.toNat : Int) ≥ 48 ∧ (b.toNat : Int) ≤ 57
  · have : (48 ≤ b.toNat ∧ b.toNat ≤ 57) := by omega
    rw [if_pos h4.1, if_pos h4.2]; simp [this]
  have hd : (decide (48 ≤ b.toNat) && decide (b.toNat ≤ 57)) = false := by simp; omega
  rw [hd]
  by_cases q : (b.toNat : Int) ≥ 48
  · rw [if_pos q, if_neg (by omega)]; simp
  · rw [if_neg q]; simp
theorem kindS_pos (b : UInt8) : kindS b > 0 ↔ inName b = true := by
  unfold kindS inName
  cases small b <;> cases big b <;> cases digit b <;> simp
section
variable {s : List UInt8} (hs : s.length ≤ 10000)
include hs
theorem inner_spec : ∀ (n i : Nat), s.length - i ≤ n → i ≤ s.length → ∃ k : Nat, hindcastref04_inner_l0 s (i : Int) = some (k : Int) ∧ i ≤ k ∧ k ≤ s.length ∧ (k = s.length ↔ (s.drop i).all inName = true) := by
  have stop : ∀ i : Nat, i = s.length → ∃ k : Nat, hindcastref04_inner_l0 s (i : Int) = some (k : Int) ∧ i ≤ k ∧ k ≤ s.length ∧ (k = s.length ↔ (s.drop i).all inName = true) := fun i hi => by
    subst hi
    exact ⟨s.length, by rw [hindcastref04_inner_l0_eq, if_neg (by omega), hindcastref04_inner_j1_eq], Nat.le_refl _, Nat.le_refl _, by simp⟩
  intro n
  induction n with
  | zero => intro i h1 h2; exact stop i (by omega)
  | succ n ih =>
    intro i h1 h2
    by_cases h : i < s.length
    · rw [hindcastref04_inner_l0_eq, if_pos (by omega), getI_nat' h, obind_some, kind_spec, obind_some, List.drop_eq_getElem_cons h, List.all_cons]
      by_cases hk : kindS s[i] > 0
      · rw [if_pos hk, wrap64 (by omega) (by omega), show (i : Int) + 1 = ((i + 1 : Nat) : Int) by omega]
        obtain ⟨k, k1, k2, k3, k4⟩ := ih (i + 1) (by omega) (by omega)
        exact ⟨k, k1, by omega, k3, by rw [k4, (kindS_pos _).1 hk, Bool.true_and]⟩
      · rw [if_neg hk, hindcastref04_inner_j1_eq]
        have : inName s[i] = false := by
          cases hq : inName s[i] with
          | false => rfl
          | true => exact absurd ((kindS_pos _).2 hq) hk
        exact ⟨i, rfl, Nat.le_refl _, h2, ⟨fun e => by omega, fun e => by rw [this] at e; simp at e⟩⟩
    · exact stop i (by omega)
omit hs in
theorem refWord_spec : hindcastref04_Word s = some (words.contains s) := by
  have key : ∀ (n i : Nat), words.length - i ≤ n → i ≤ words.length → hindcastref04_Word_l0 s (i : Int) = some ((words.drop i).contains s) := by
    have hw : words.length = 16 := rfl
    have stop : ∀ i : Nat, i = words.length → hindcastref04_Word_l0 s (i : Int) = some ((words.drop i).contains s) := fun i hi => by
      rw [hindcastref04_Word_l0_eq, if_neg (by show ¬ (i : Int) < (words.length : Int); omega), hindcastref04_Word_j1_eq, hi]; simp
    intro n
    induction n with
    | zero => intro i h1 h2; exact stop i (by omega)
    | succ n ih =>
      intro i h1 h2
      by_cases h : i < words.length
      · have hg : getI words (i : Int) = some words[i] := getI_nat' h
        rw [hindcastref04_Word_l0_eq, if_pos (by show (i : Int) < (words.length : Int); omega)]
        change (getI words (i : Int)).bind _ = _
        rw [hg, obind_some, List.drop_eq_getElem_cons h, List.contains_cons, wrap64 (by omega) (by omega), show (i : Int) + 1 = ((i + 1 : Nat) : Int) by omega, ih (i + 1) (by omega) (by omega)]
        by_cases e : words[i] = s
        · rw [if_pos e]; simp [e]
        · have e' : ¬ s = words[i] := fun q => e q.symm
          rw [if_neg e]; simp [e']
      · exact stop i (by omega)
  unfold hindcastref04_Word
  exact key 16 0 (by decide) (by omega)
omit hs in
theorem value_spec (b : UInt8) : ∃ v, hindcastref03_value (b.toNat : Int) = some v ∧ -1 ≤ v ∧ v ≤ 15 := by
  have := b.toNat_lt
  unfold hindcastref03_value hindcastref03_value_j1 hindcastref03_value_j0 hindcastref03_value_j2
  rw [wrap64 (n := (b.toNat : Int)) (by omega) (by omega), wrap64 (n := (b.toNat : Int) - 48) (by omega) (by omega), wrap64 (n := (b.toNat : Int) - 87) (by omega) (by omega), wrap64 (n := (b.toNat : Int) - 55) (by omega) (by omega)]
  repeat' split
  all_goals exact ⟨_, rfl, by omega, by omega⟩
theorem read_loop : ∀ (n i : Nat) (w : List Int), s.length + 4 - i ≤ n → w.length ≤ i → i ≤ 20000 → BytesOb w → ∃ r, hindcastref03_Read_l0 s (i : Int) w = some r := by
  intro n
  induction n with
  | zero => intro i w h1 h2 h3 hw; exact ⟨_, by rw [hindcastref03_Read_l0_eq, if_neg (by omega), hindcastref03_Read_j3_eq]⟩
  | succ n ih =>
    intro i w h1 h2 h3 hw
    by_cases h : i < s.length
    · have hap : ∀ x : Int, AppOb 1 (w.length + ([x] : List Int).length) := fun x => by unfold AppOb maxLen; simp; omega
      have hby : ∀ x : Int, 0 ≤ x → x < 256 → BytesOb (w ++ [x]) := fun x h1 h2 y hy => by
        rcases List.mem_append.1 hy with q | q
        · exact hw y q
        · simp at q; omega
      have go : ∀ (d : Nat) (x : Int), d ≤ 3 → 0 ≤ x → x < 256 → ∃ r, hindcastref03_Read_j4 s ((i + d : Nat) : Int) (w ++ [x]) = some r := fun d x hd hx1 hx2 => by
        rw [hindcastref03_Read_j4_eq, wrap64 (by omega) (by omega), show ((i + d : Nat) : Int) + 1 = ((i + d + 1 : Nat) : Int) by omega]
        exact ih (i + d + 1) _ (by omega) (by simp; omega) (by omega) (hby x hx1 hx2)
      have hb : ∀ b : UInt8, (0 : Int) ≤ b.toNat ∧ (b.toNat : Int) < 256 := fun b => by have := b.toNat_lt; omega
      rw [hindcastref03_Read_l0_eq, if_pos (by omega), getI_nat' h, obind_some]
      by_cases c1 : (s[i].toNat : Int) < 32
      · exact ⟨_, by rw [if_pos c1]⟩
      rw [if_neg c1]
      by_cases c2 : (s[i].toNat : Int) > 126
      · exact ⟨_, by rw [if_pos c2]⟩
      rw [if_neg c2]
      by_cases c3 : (s[i].toNat : Int) = 34
      · exact ⟨_, by rw [if_pos c3, if_pos hw]⟩
      rw [if_neg c3]
      by_cases c4 : (s[i].toNat : Int) = 92
      · rw [if_pos c4, wrap64 (n := (i : Int) + 1) (by omega) (by omega)]
        by_cases c5 : (i : Int) + 1 ≥ s.length
        · exact ⟨_, by rw [if_pos c5]⟩
        have hi1 : i + 1 < s.length := by omega
        have g1 : getI s ((i : Int) + 1) = some s[i + 1] := by rw [show (i : Int) + 1 = ((i + 1 : Nat) : Int) by omega]; exact getI_nat' hi1
        have hj1 : ∃ r, hindcastref03_Read_j1 s (i : Int) w = some r := by
          rw [hindcastref03_Read_j1_eq, wrap64 (n := (i : Int) + 1) (by omega) (by omega), g1, obind_some, if_pos (hap _)]
          exact go 1 _ (by omega) (hb _).1 (hb _).2
        rw [if_neg c5, g1, obind_some]
        by_cases d1 : (s[i + 1].toNat : Int) = 34
        · rw [if_pos d1]; exact hj1
        rw [if_neg d1]
        by_cases d2 : (s[i + 1].toNat : Int) = 92
        · rw [if_pos d2]; exact hj1
        rw [if_neg d2]
        by_cases d3 : (s[i + 1].toNat : Int) = 110
        · rw [if_pos d3, if_pos (hap _)]; exact go 1 10 (by omega) (by omega) (by omega)
        rw [if_neg d3]
        by_cases d4 : (s[i + 1].toNat : Int) = 116
        · rw [if_pos d4, if_pos (hap _)]; exact go 1 9 (by omega) (by omega) (by omega)
        rw [if_neg d4]
        by_cases d5 : (s[i + 1].toNat : Int) = 120
        · rw [if_pos d5]
          rw [hindcastref03_Read_l2_eq, if_pos (by omega), wrap64 (n := (i : Int) + 1) (by omega) (by omega), wrap64 (n := (i : Int) + 1 + 1) (by omega) (by omega)]
          by_cases e1 : (i : Int) + 1 + 1 ≥ s.length
          · exact ⟨_, by rw [if_pos e1]⟩
          have g2 : getI s ((i : Int) + 1 + 1) = some (s[i + 2]'(by omega)) := by rw [show (i : Int) + 1 + 1 = ((i + 2 : Nat) : Int) by omega]; exact getI_nat' (by omega)
          obtain ⟨v1, hv1, v10, v11⟩ := value_spec (s[i + 2]'(by omega))
          rw [if_neg e1, g2, obind_some, hv1, obind_some]
          by_cases e2 : v1 < 0
          · exact ⟨_, by rw [if_pos e2]⟩
          rw [if_neg e2, wrap64 (n := 1 + 1) (by omega) (by omega), hindcastref03_Read_l2_eq, if_pos (by omega), wrap64 (n := (i : Int) + 1) (by omega) (by omega), wrap64 (n := (i : Int) + 1 + (1 + 1)) (by omega) (by omega)]
          by_cases e3 : (i : Int) + 1 + (1 + 1) ≥ s.length
          · exact ⟨_, by rw [if_pos e3]⟩
          have g3 : getI s ((i : Int) + 1 + (1 + 1)) = some (s[i + 3]'(by omega)) := by rw [show (i : Int) + 1 + (1 + 1) = ((i + 3 : Nat) : Int) by omega]; exact getI_nat' (by omega)
          obtain ⟨v2, hv2, v20, v21⟩ := value_spec (s[i + 3]'(by omega))
          rw [if_neg e3, g3, obind_some, hv2, obind_some]
          by_cases e4 : v2 < 0
          · exact ⟨_, by rw [if_pos e4]⟩
          rw [if_neg e4, wrap64 (n := 1 + 1 + 1) (by omega) (by omega), hindcastref03_Read_l2_eq, if_neg (by omega), hindcastref03_Read_j5_eq, wrap64 (n := (i : Int) + 1) (by omega) (by omega), wrap64 (n := (i : Int) + 1 + 1) (by omega) (by omega), g2, obind_some, hv1, obind_some, wrap64 (n := (i : Int) + 1 + 2) (by omega) (by omega), show (i : Int) + 1 + 2 = (i : Int) + 1 + (1 + 1) by omega, g3, obind_some, hv2, obind_some, if_pos (hap _), wrap64 (n := v1 * 16) (by omega) (by omega), wrap64 (n := v1 * 16 + v2) (by omega) (by omega), wrap8 (by omega) (by omega), show (i : Int) + 1 + (1 + 1) = ((i + 3 : Nat) : Int) by omega]
          exact go 3 _ (by omega) (by omega) (by omega)
        · exact ⟨_, by rw [if_neg d5]⟩
      · rw [if_neg c4, if_pos (hap _)]
        have := go 0 (s[i].toNat : Int) (by omega) (hb _).1 (hb _).2
        simpa using this
    · exact ⟨_, by rw [hindcastref03_Read_l0_eq, if_neg (by omega), hindcastref03_Read_j3_eq]⟩
theorem read_total : ∃ r, hindcastref03_Read s = some r := by
  unfold hindcastref03_Read
  by_cases h : (s.length : Int) = 0
  · exact ⟨_, by rw [if_pos h]⟩
  have hg : getI s 0 = some (s[0]'(by omega)) := getI_nat' (i := 0) (by omega)
  rw [if_neg h, hg, obind_some]
  by_cases c : ((s[0]'(by omega)).toNat : Int) = 34
  · rw [if_pos c]; exact read_loop hs _ 1 [] (Nat.le_refl _) (by simp) (by omega) (fun x hx => by simp at hx)
  · exact ⟨_, by rw [if_neg c]⟩
omit hs in
theorem one_l3 (h0 : 0 < s.length) : ∀ (n i : Nat), 19 - i ≤ n → i ≤ 19 → ∃ t k e, hindcastref04_One_l3 s 0 (i : Int) = some (t, k, e) ∧ (e = 0 → t.Kind = 7) := by
  have stop : ∀ i : Nat, i = 19 → ∃ t k e, hindcastref04_One_l3 s 0 (i : Int) = some (t, k, e) ∧ (e = 0 → t.Kind = 7) := fun i hi => by
    subst hi
    exact ⟨_, _, _, by rw [hindcastref04_One_l3_eq, if_neg (by decide), hindcastref04_One_j4_eq], fun q => by omega⟩
  intro n
  induction n with
  | zero => intro i h1 h2; exact stop i (by omega)
  | succ n ih =>
    intro i h1 h2
    by_cases h : i < 19
    · have hg : getI s 0 = some (s[0]) := getI_nat' (i := 0) (by omega)
      have hg2 : getI ([43, 45, 42, 47, 37, 60, 62, 33, 61, 40, 41, 123, 125, 91, 93, 44, 59, 58, 46] : List UInt8) (i : Int) = some (([43, 45, 42, 47, 37, 60, 62, 33, 61, 40, 41, 123, 125, 91, 93, 44, 59, 58, 46] : List UInt8)[i]'h) := getI_nat' h
      rw [hindcastref04_One_l3_eq, if_pos (by show (i : Int) < 19; omega), hg, obind_some, hg2, obind_some, wrap64 (n := (i : Int) + 1) (by omega) (by omega)]
      split
      · rw [if_pos (by unfold CutR; show (0 : Int) ≤ i ∧ (i : Int) ≤ i + 1 ∧ (i : Int) + 1 ≤ 19; omega)]
        exact ⟨_, _, _, rfl, fun _ => rfl⟩
      · rw [show (i : Int) + 1 = ((i + 1 : Nat) : Int) by omega]
        exact ih (i + 1) (by omega) (by omega)
    · exact stop i (by omega)
omit hs in
theorem one_l1 (h0 : 0 < s.length) : ∀ (n i : Nat), 6 - i ≤ n → i ≤ 6 → ∃ t k e, hindcastref04_One_l1 s 0 (i : Int) = some (t, k, e) ∧ (e = 0 → t.Kind = 7) := by
  have stop : ∀ i : Nat, i = 6 → ∃ t k e, hindcastref04_One_l1 s 0 (i : Int) = some (t, k, e) ∧ (e = 0 → t.Kind = 7) := fun i hi => by
    subst hi
    rw [hindcastref04_One_l1_eq, if_neg (by decide), hindcastref04_One_j2_eq]
    exact one_l3 h0 19 0 (by omega) (by omega)
  intro n
  induction n with
  | zero => intro i h1 h2; exact stop i (by omega)
  | succ n ih =>
    intro i h1 h2
    by_cases h : i < 6
    · have next : ∃ t k e, hindcastref04_One_l1 s 0 (w64 ((i : Int) + 1)) = some (t, k, e) ∧ (e = 0 → t.Kind = 7) := by
        rw [wrap64 (n := (i : Int) + 1) (by omega) (by omega), show (i : Int) + 1 = ((i + 1 : Nat) : Int) by omega]
        exact ih (i + 1) (by omega) (by omega)
      have hg2 : getI ([([38, 38] : List UInt8), ([124, 124] : List UInt8), ([61, 61] : List UInt8), ([33, 61] : List UInt8), ([60, 61] : List UInt8), ([62, 61] : List UInt8)] : List (List UInt8)) (i : Int) = some (([([38, 38] : List UInt8), ([124, 124] : List UInt8), ([61, 61] : List UInt8), ([33, 61] : List UInt8), ([60, 61] : List UInt8), ([62, 61] : List UInt8)] : List (List UInt8))[i]'h) := getI_nat' h
      rw [hindcastref04_One_l1_eq, if_pos (by show (i : Int) < 6; omega), wrap64 (n := (0 : Int) + 2) (by omega) (by omega)]
      by_cases c : (0 : Int) + 2 ≤ s.length
      · rw [if_pos c, if_pos (by unfold CutR; omega), hg2, obind_some]
        split
        · exact ⟨_, _, _, rfl, fun _ => rfl⟩
        · exact next
      · rw [if_neg c]; exact next
    · exact stop i (by omega)
theorem named_spec (big_ : Bool) : hindcastref05_named s (cond big_ 2 1) = some (lettersS s (cond big_ big small)) := by
  unfold hindcastref05_named hindcastref05_named_j0
  cases hc : s with
  | nil => simp [lettersS]
  | cons b r =>
    rw [← hc]
    have h0 : 0 < s.length := by rw [hc]; simp
    have hg : getI s 0 = some b := by rw [hc]; rfl
    have hl : lettersS s (cond big_ big small) = ((cond big_ big small) b && !(words.contains s) && s.all inName) := by rw [hc]; rfl
    rw [if_neg (by omega), hg, obind_some, hl]
    have one : kindS b ≠ 3 → ∃ t k e, hindcastref04_One s 0 = some (t, k, e) ∧ (if e = 0 then (if k = (s.length : Int) then some (decide (t.Kind = (cond big_ 2 1 : Int))) else some false) else some false) = some ((cond big_ big small) b && !(words.contains s) && s.all inName) := fun h3 => by
      unfold hindcastref04_One
      rw [hg, obind_some, kind_spec, obind_some]
      have name_ : (small b = true ∨ big b = true) → ∃ t k e, hindcastref04_One_j0 s 0 = some (t, k, e) ∧ (if e = 0 then (if k = (s.length : Int) then some (decide (t.Kind = (cond big_ 2 1 : Int))) else some false) else some false) = some ((cond big_ big small) b && !(words.contains s) && s.all inName) := fun hsb => by
        rw [hindcastref04_One_j0_eq]
        unfold hindcastref04_inner
        obtain ⟨k, k1, k2, k3, k4⟩ := inner_spec hs s.length 0 (by omega) (by omega)
        have k1' : hindcastref04_inner_l0 s 0 = some (k : Int) := k1
        rw [List.drop_zero] at k4
        have hcut : k = s.length → cutL s 0 (k : Int) = s := fun e => by unfold cutL; rw [e]; simp
        rw [k1', obind_some, if_pos (by unfold CutR; omega), hg, obind_some, kind_spec, obind_some]
        by_cases hsm : small b = true
        · have hk1 : kindS b = 1 := by unfold kindS; rw [if_pos hsm]
          have hbig : big b = false := by
            unfold small at hsm; unfold big
            simp at hsm ⊢; omega
          rw [if_neg (by rw [hk1]; decide), refWord_spec, obind_some]
          by_cases hw : words.contains (cutL s 0 (k : Int)) = true
          · refine ⟨_, _, _, by rw [if_pos hw], ?_⟩
            rw [if_pos rfl]
            by_cases hk : (k : Int) = s.length
            · rw [if_pos hk]
              rw [hcut (by omega)] at hw
              rw [hw]
              cases big_ <;> simp
            · rw [if_neg hk]
              have : s.all inName = false := by
                cases hq : s.all inName with
                | false => rfl
                | true => exact absurd (k4.2 hq) (by omega)
              rw [this]; simp
          · refine ⟨_, _, _, by rw [if_neg hw], ?_⟩
            rw [if_pos rfl]
            by_cases hk : (k : Int) = s.length
            · rw [if_pos hk]
              rw [hcut (by omega)] at hw
              have hw' : words.contains s = false := by simpa using hw
              rw [hw', k4.1 (by omega)]
              cases big_ <;> simp [hsm, hbig]
            · rw [if_neg hk]
              have : s.all inName = false := by
                cases hq : s.all inName with
                | false => rfl
                | true => exact absurd (k4.2 hq) (by omega)
              rw [this]; simp
        · have hbg : big b = true := by rcases hsb with q | q; exact absurd q hsm; exact q
          have hsf : small b = false := by simpa using hsm
          have hk2 : kindS b = 2 := by unfold kindS; rw [if_neg hsm, if_pos hbg]
          have hw' : words.contains s = false := by
            have key : ∀ w ∈ words, (match w with | c :: _ => big c | [] => false) = false := by decide
            cases hq : words.contains s with
            | false => rfl
            | true =>
              have := key s (by simpa using hq)
              rw [hc] at this
              rw [show big b = false from this] at hbg; cases hbg
          refine ⟨_, _, _, by rw [if_pos hk2], ?_⟩
          rw [if_pos rfl, hw']
          by_cases hk : (k : Int) = s.length
          · rw [if_pos hk, k4.1 (by omega)]
            cases big_ <;> simp [hsf, hbg]
          · rw [if_neg hk]
            have : s.all inName = false := by
              cases hq : s.all inName with
              | false => rfl
              | true => exact absurd (k4.2 hq) (by omega)
            rw [this]; simp
      by_cases hsm : small b = true
      · have hk1 : kindS b = 1 := by unfold kindS; rw [if_pos hsm]
        rw [if_pos hk1]; exact name_ (.inl hsm)
      by_cases hbg : big b = true
      · have hk2 : kindS b = 2 := by unfold kindS; rw [if_neg hsm, if_pos hbg]
        rw [if_neg (by rw [hk2]; decide), if_pos hk2]; exact name_ (.inr hbg)
      have hk0 : kindS b = 0 := by
        unfold kindS at h3 ⊢
        rw [if_neg hsm, if_neg hbg] at h3 ⊢
        by_cases hd : digit b = true
        · rw [if_pos hd] at h3; exact absurd rfl h3
        · rw [if_neg hd]
      have hfb : (cond big_ big small) b = false := by cases big_ <;> simp [hsm, hbg]
      rw [if_neg (by rw [hk0]; decide), if_neg (by rw [hk0]; decide), if_neg (by rw [hk0]; decide), hfb, Bool.false_and, Bool.false_and]
      by_cases h34 : (b.toNat : Int) = 34
      · have hcl : cutL s 0 (s.length : Int) = s := by unfold cutL; simp
        obtain ⟨r, hr⟩ := read_total hs
        rw [if_pos h34, if_pos (by unfold CutR; omega), hcl, hr, obind_some]
        by_cases hw : r.2.2 = true
        · refine ⟨_, _, _, by rw [if_pos hw], ?_⟩
          rw [if_pos rfl]
          split
          · cases big_ <;> simp
          · rfl
        · exact ⟨_, _, _, by rw [if_neg hw], by rw [if_neg (by decide)]⟩
      · rw [if_neg h34]
        obtain ⟨t, k, e, h5, h6⟩ := one_l1 h0 6 0 (by omega) (by omega)
        refine ⟨t, k, e, h5, ?_⟩
        by_cases he : e = 0
        · rw [if_pos he, h6 he]
          split
          · cases big_ <;> simp
          · rfl
        · rw [if_neg he]
    by_cases hd : digit b = true
    · have : 48 ≤ b.toNat ∧ b.toNat ≤ 57 := by unfold digit at hd; simpa using hd
      have hf : (cond big_ big small) b = false := by
        cases big_
        · show small b = false; unfold small; simp; omega
        · show big b = false; unfold big; simp; omega
      rw [if_pos (by omega), if_pos (by omega), hf]; simp
    · have h3 : kindS b ≠ 3 := by
        unfold kindS
        rw [if_neg hd]
        split
        · decide
        · split <;> decide
      have hnd : ¬ ((b.toNat : Int) ≥ 48 ∧ (b.toNat : Int) ≤ 57) := by
        intro q; apply hd; unfold digit; simp; omega
      obtain ⟨t, k, e, h5, h6⟩ := one h3
      rw [h5, obind_some]
      by_cases q : (b.toNat : Int) ≥ 48
      · rw [if_pos q, if_neg (by omega)]; exact h6
      · rw [if_neg q]; exact h6
theorem refName_spec : hindcastref05_Name s = some (nameS s) := by
  unfold hindcastref05_Name nameS
  have := named_spec hs false
  simp only [cond_false] at this
  rw [this, obind_some]
theorem refGreat_spec : hindcastref05_Great s = some (greatS s) := by
  unfold hindcastref05_Great greatS
  have := named_spec hs true
  simp only [cond_true] at this
  rw [this, obind_some]
end
theorem treeNames_all (s : List UInt8) (h : s.length ≤ maxLen) : hindcastlaw05_TreeNames s = some true := by
  unfold hindcastlaw05_TreeNames
  by_cases hg : (s.length : Int) > 100
  · rw [if_pos hg, awake_true, obind_some, if_pos rfl]
  · have hs : s.length ≤ 10000 := by omega
    rw [if_neg hg, name_spec, obind_some, refName_spec hs, obind_some, if_pos (by simp), great_spec, obind_some, refGreat_spec hs, obind_some, if_pos (by simp), awake_true, obind_some]
end Go.Proofs.Ytahioekdpndohaa
