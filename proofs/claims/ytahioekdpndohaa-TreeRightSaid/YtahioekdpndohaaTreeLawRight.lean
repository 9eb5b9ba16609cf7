/- TreeRight: whether a row is a program's tree is the document's, in plain terms. -/
import Derived.Test.YtahioekdpndohaaTreeRefName
namespace Go.Proofs.Ytahioekdpndohaa
open Go.RowKit
set_option linter.unusedVariables false
def rfieldB (x : GApiNode) : Bool := if x.Kind = 4 then nameS x.Text else fieldsB x
theorem rfield_spec (x : GApiNode) (hx : x.Text.length ≤ 10000) : hindcastref05_field x = some (rfieldB x) := by
  unfold hindcastref05_field hindcastref05_field_j0 hindcastref05_field_j1 rfieldB fieldsB
  rw [refName_spec hx, refGreat_spec hx]
  simp only [obind_some]
  generalize greatS x.Text = G
  generalize nameS x.Text = N
  generalize x.Kind = k
  generalize x.Num = n
  by_cases he : x.Text = []
  all_goals (
    by_cases h2 : k = 2
    · subst h2; cases G <;> simp
    by_cases h19 : k = 19
    · subst h19; cases G <;> simp
    by_cases h3 : k = 3
    · subst h3; cases N <;> simp
    by_cases h5 : k = 5
    · subst h5; cases N <;> simp
    by_cases h7 : k = 7
    · subst h7; cases N <;> simp
    by_cases h26 : k = 26
    · subst h26; cases N <;> simp
    by_cases h27 : k = 27
    · subst h27; cases N <;> simp
    by_cases h29 : k = 29
    · subst h29; cases N <;> simp
    by_cases h4 : k = 4
    · subst h4; cases N <;> simp
    by_cases h23 : k = 23
    · subst h23; simp
    by_cases h21 : k = 21
    · subst h21; simp [he]
    by_cases h22 : k = 22
    · subst h22; simp [he]; try (by_cases h : 0 ≤ n <;> simp [h])
    by_cases h24 : k = 24
    · subst h24; simp [he]; try (by_cases h : n = 0 <;> simp [h])
    by_cases h30 : k = 30
    · subst h30; simp [he]; try (by_cases h : n = 12 <;> simp [h])
    by_cases h31 : k = 31
    · subst h31; simp [he]
      try (
        by_cases a : 1 ≤ n
        · by_cases b : n ≤ 11
          · simp [a, b]
          · by_cases h : n = 14 <;> simp [a, b, h]
        · by_cases h : n = 14 <;> simp [a, h])
    simp [h2, h19, h3, h5, h7, h26, h27, h29, h4, h23, h21, h22, h24, h30, h31, he])
/-- A kind's letter. -/
def srt (k : Int) : UInt8 :=
  if k = 14 then 48 else if 15 ≤ k ∧ k ≤ 20 then 116 else if 21 ≤ k ∧ k ≤ 32 then 101 else if 7 ≤ k ∧ k ≤ 13 then 115 else if k = 6 then 98 else if k = 5 then 112 else if k = 3 then 102 else if k = 2 ∨ k = 4 then 100 else 45
theorem two_if {α : Type} (a b k : Int) (X Y : α) : (if k ≥ a then (if k ≤ b then X else Y) else Y) = if a ≤ k ∧ k ≤ b then X else Y := by
  by_cases h : a ≤ k
  · by_cases h2 : k ≤ b <;> simp [h, h2]
  · simp [h]
theorem sort_spec (x : GApiNode) : hindcastref05_sort x = some ((srt x.Kind).toNat : Int) := by
  unfold hindcastref05_sort hindcastref05_sort_j2 hindcastref05_sort_j1
  rw [two_if, two_if, two_if]
  unfold hindcastref05_sort_j0 hindcastref05_sort_j3 srt
  generalize x.Kind = k
  by_cases h14 : k = 14
  · rw [if_pos h14, if_pos h14]; rfl
  rw [if_neg h14, if_neg h14]
  by_cases ht : 15 ≤ k ∧ k ≤ 20
  · rw [if_pos ht, if_pos ht]; rfl
  rw [if_neg ht, if_neg ht]
  by_cases he : 21 ≤ k ∧ k ≤ 32
  · rw [if_pos he, if_pos he]; rfl
  rw [if_neg he, if_neg he]
  by_cases hs : 7 ≤ k ∧ k ≤ 13
  · rw [if_pos hs, if_pos hs]; rfl
  rw [if_neg hs, if_neg hs]
  by_cases h6 : k = 6
  · rw [if_pos h6, if_pos h6]; rfl
  rw [if_neg h6, if_neg h6]
  by_cases h5 : k = 5
  · rw [if_pos h5, if_pos h5]; rfl
  rw [if_neg h5, if_neg h5]
  by_cases h3 : k = 3
  · rw [if_pos h3, if_pos h3]; rfl
  rw [if_neg h3, if_neg h3]
  by_cases h2 : k = 2
  · rw [if_pos h2, if_pos (.inl h2)]; rfl
  by_cases h4 : k = 4
  · rw [if_neg h2, if_pos h4, if_pos (.inr h4)]; rfl
  rw [if_neg h2, if_neg h4, if_neg (by omega)]; rfl
theorem only_spec (s : List UInt8) (hs : s.length ≤ 200000) (c : UInt8) : hindcastref05_only s (c.toNat : Int) = some (s.all (· == c)) := by
  have key : ∀ (n i : Nat), s.length - i ≤ n → i ≤ s.length → hindcastref05_only_l0 s (c.toNat : Int) (i : Int) = some ((s.drop i).all (· == c)) := by
    have stop : ∀ i : Nat, i = s.length → hindcastref05_only_l0 s (c.toNat : Int) (i : Int) = some ((s.drop i).all (· == c)) := fun i hi => by
      rw [hindcastref05_only_l0_eq, if_neg (by omega), hindcastref05_only_j1_eq, hi]; simp
    intro n
    induction n with
    | zero => intro i h1 h2; exact stop i (by omega)
    | succ n ih =>
      intro i h1 h2
      by_cases h : i < s.length
      · rw [hindcastref05_only_l0_eq, if_pos (by omega), getI_nat' h, obind_some, List.drop_eq_getElem_cons h, List.all_cons]
        by_cases e : s[i] = c
        · rw [if_pos (by rw [e]), wrap64 (by omega) (by omega), show (i : Int) + 1 = ((i + 1 : Nat) : Int) by omega, ih (i + 1) (by omega) (by omega)]
          simp [e]
        · have : ¬ (s[i].toNat : Int) = (c.toNat : Int) := fun q => e (UInt8.toNat_inj.1 (by omega))
          rw [if_neg this]
          simp [e]
      · exact stop i (by omega)
  unfold hindcastref05_only
  exact key s.length 0 (by omega) (by omega)
def famB (k num : Int) (top : Bool) (ks : List Int) : Bool :=
  let s := ks.map srt
  if k = 1 then top && s.all (· == 100)
  else if k = 2 then s.all (· == 102)
  else if k = 3 ∨ k = 5 ∨ k = 20 then decide (s = [116])
  else if k = 4 then decide (2 ≤ s.length) && (decide ((s.length : Int) - 2 = num) && ((s.take (s.length - 2)).all (· == 112) && ((decide (s[s.length - 2]? = some 116) || decide (s[s.length - 2]? = some 48)) && decide (s[s.length - 1]? = some 98))))
  else if k = 6 then s.all (· == 115)
  else if k = 7 then decide (s = [116, 101])
  else if k = 8 then decide (s = [101, 101]) && decide (ks.headD 0 = 26 ∨ ks.headD 0 = 28 ∨ ks.headD 0 = 29)
  else if k = 9 then decide (s = [101, 98] ∨ s = [101, 98, 98])
  else if k = 10 then decide (s = [101, 98])
  else if k = 11 then decide (s = [] ∨ s = [101])
  else if k = 12 ∨ k = 29 ∨ k = 30 then decide (s = [101])
  else if k = 13 then decide (s = [101]) && decide (ks.headD 0 = 27)
  else if k = 27 then s.all (· == 101)
  else if k = 28 ∨ k = 31 then decide (s = [101, 101])
  else if k = 32 then (decide (s = [116]) && decide (ks.headD 0 = 19)) || (decide (s = [116, 101]) && decide (ks.headD 0 = 20))
  else decide (s = []) && decide (14 ≤ k ∧ k ≤ 26)
theorem intsS (s : List UInt8) : bytesS (s.map fun b => (b.toNat : Int)) = s ∧ BytesOb (s.map fun b => (b.toNat : Int)) := by
  constructor
  · unfold bytesS
    rw [List.map_map]
    refine (List.map_congr_left fun b _ => ?_).trans (List.map_id s)
    simp
  · intro x hx
    obtain ⟨b, _, rfl⟩ := List.mem_map.1 hx
    have := b.toNat_lt
    omega
theorem fam_j2 (l : List GApiNode) {i : Nat} (hi : i < l.length) (ks : List Int) (hk : ks.length ≤ 200000) (b c d e : Int) (f : List UInt8) :
    hindcastref05_family_j2 l (i : Int) ((ks.map srt).map fun b => (b.toNat : Int)) (ks.headD 0) b c d e f = some (famB (nodeAt l i).Kind (nodeAt l i).Num (decide (i = 0)) ks) := by
  rw [hindcastref05_family_j2_eq, nodeAt_get hi, obind_some, (intsS (ks.map srt)).1]
  generalize nodeAt l i = x
  have hsl : (ks.map srt).length = ks.length := List.length_map _
  unfold famB
  dsimp only
  generalize hs : ks.map srt = s at *
  have o100 := only_spec s (by omega) 100
  have o102 := only_spec s (by omega) 102
  have o115 := only_spec s (by omega) 115
  have o101 := only_spec s (by omega) 101
  have u1 : ((100 : UInt8).toNat : Int) = 100 := rfl
  have u2 : ((102 : UInt8).toNat : Int) = 102 := rfl
  have u3 : ((115 : UInt8).toNat : Int) = 115 := rfl
  have u4 : ((101 : UInt8).toNat : Int) = 101 := rfl
  rw [u1] at o100; rw [u2] at o102; rw [u3] at o115; rw [u4] at o101
  simp only [o100, o102, o115, o101, obind_some]
  generalize ks.headD 0 = f0
  generalize hk' : x.Kind = k
  by_cases k1 : k = 1
  · subst k1
    by_cases h0 : i = 0
    · subst h0; simp
    · have : ¬ (i : Int) = 0 := by omega
      simp [h0, this]
  by_cases k2 : k = 2
  · subst k2; simp
  by_cases k3 : k = 3
  · subst k3; simp
  by_cases k5 : k = 5
  · subst k5; simp
  by_cases k20 : k = 20
  · subst k20; simp
  by_cases k4 : k = 4
  · subst k4
    have r1 : ((4 : Int) = 3 ∨ (4 : Int) = 5 ∨ (4 : Int) = 20) = False := by simp
    simp only [r1, if_false, if_true, show ((4 : Int) = 1) = False by simp, show ((4 : Int) = 2) = False by simp, show ((4 : Int) = 3) = False by simp, show ((4 : Int) = 5) = False by simp, show ((4 : Int) = 20) = False by simp]
    by_cases h2 : (s.length : Int) ≥ 2
    · have d2 : decide (2 ≤ s.length) = true := decide_eq_true (by omega)
      rw [if_pos h2, wrap64 (n := (s.length : Int) - 2) (by omega) (by omega), wrap64 (n := (s.length : Int) - 1) (by omega) (by omega), d2, Bool.true_and]
      by_cases hn : (s.length : Int) - 2 = x.Num
      · have hc : cutL s 0 ((s.length : Int) - 2) = s.take (s.length - 2) := by unfold cutL; simp; congr 1; omega
        have ho := only_spec (s.take (s.length - 2)) (by simp; omega) 112
        rw [show ((112 : UInt8).toNat : Int) = 112 from rfl] at ho
        rw [if_pos hn, if_pos (by unfold CutR; omega), hc, ho, obind_some, show decide ((s.length : Int) - 2 = x.Num) = true from decide_eq_true hn, Bool.true_and]
        have g1 : getI s ((s.length : Int) - 1) = some (s[s.length - 1]'(by omega)) := by rw [show (s.length : Int) - 1 = ((s.length - 1 : Nat) : Int) by omega]; exact getI_nat' (by omega)
        have g2 : getI s ((s.length : Int) - 2) = some (s[s.length - 2]'(by omega)) := by rw [show (s.length : Int) - 2 = ((s.length - 2 : Nat) : Int) by omega]; exact getI_nat' (by omega)
        rw [g1, g2, obind_some, obind_some, List.getElem?_eq_getElem (show s.length - 1 < s.length by omega), List.getElem?_eq_getElem (show s.length - 2 < s.length by omega)]
        generalize (s[s.length - 1]'(by omega)) = y1
        generalize (s[s.length - 2]'(by omega)) = y2
        have t1 : ∀ (y c : UInt8), ((y.toNat : Int) = (c.toNat : Int)) ↔ y = c := fun y c => ⟨fun q => UInt8.toNat_inj.1 (by omega), fun q => by rw [q]⟩
        have a1 : ((y2.toNat : Int) = 116) ↔ y2 = 116 := t1 y2 116
        have a2 : ((y2.toNat : Int) = 48) ↔ y2 = 48 := t1 y2 48
        have a3 : ((y1.toNat : Int) = 98) ↔ y1 = 98 := t1 y1 98
        simp only [a1, a2, a3, Option.some.injEq]
        generalize (s.take (s.length - 2)).all (· == 112) = R
        cases R with
        | false => simp
        | true =>
          by_cases b1 : y2 = 116
          · simp [b1]
          · by_cases b2 : y2 = 48
            · simp [b2]
            · simp [b1, b2]
      · rw [if_neg hn, show decide ((s.length : Int) - 2 = x.Num) = false from decide_eq_false hn]; simp
    · have d2 : decide (2 ≤ s.length) = false := decide_eq_false (by omega)
      rw [if_neg h2, d2]; simp
  by_cases k6 : k = 6
  · subst k6; simp
  by_cases k7 : k = 7
  · subst k7; simp
  by_cases k8 : k = 8
  · subst k8
    simp
    by_cases q : s = [101, 101]
    · simp [q]
      by_cases q1 : f0 = 26
      · simp [q1]
      · by_cases q2 : f0 = 28
        · simp [q2]
        · simp [q1, q2]
    · simp [q]
  by_cases k9 : k = 9
  · subst k9
    simp
    by_cases q : s = [101, 98] <;> simp [q]
  by_cases k10 : k = 10
  · subst k10; simp
  by_cases k11 : k = 11
  · subst k11
    simp
    by_cases q : s = [] <;> simp [q]
  by_cases k12 : k = 12
  · subst k12; simp
  by_cases k29 : k = 29
  · subst k29; simp
  by_cases k30 : k = 30
  · subst k30; simp
  by_cases k13 : k = 13
  · subst k13
    simp
    by_cases q : s = [101] <;> simp [q]
  by_cases k27 : k = 27
  · subst k27; simp
  by_cases k28 : k = 28
  · subst k28; simp
  by_cases k31 : k = 31
  · subst k31; simp
  by_cases k32 : k = 32
  · subst k32
    simp
    by_cases q : s = [116]
    · by_cases q3 : f0 = 19 <;> simp [q, q3]
    · by_cases q2 : s = [116, 101] <;> simp [q, q2]
  simp [k1, k2, k3, k5, k20, k4, k6, k7, k8, k9, k10, k11, k12, k29, k30, k13, k27, k28, k31, k32]
  by_cases q : s = []
  · by_cases q2 : 14 ≤ k <;> simp [q, q2]
  · simp [q]
end Go.Proofs.Ytahioekdpndohaa
