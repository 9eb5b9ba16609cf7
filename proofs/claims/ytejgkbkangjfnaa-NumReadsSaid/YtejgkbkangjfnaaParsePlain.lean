/- What a text is read as: plain lists of bytes. -/
import Derived.Test.YtejgkbkangjfnaaDecPlain
namespace Go.Proofs.Ytejgkbkangjfnaa
open Go.RowKit

/-- The digits of a text: behind a minus sign, if there is one. -/
def below (s : List UInt8) : Bool := s.head? == some 45
def digs (s : List UInt8) : List UInt8 := if below s then s.tail else s
def badHead (s : List UInt8) : Bool := (digs s).isEmpty || ((digs s).head? == some 48 && (below s || decide (1 < (digs s).length)))
/-- The number and the error's number. -/
def parseS (s : List UInt8) : Int × Int :=
  if badHead s then (0, 2) else
  if (digs s).all isDig then
    (if 9223372036854775808 < val (digs s) ∨ (val (digs s) = 9223372036854775808 ∧ below s = false) then (0, 14)
     else (if below s then -(val (digs s) : Int) else (val (digs s) : Int), 0))
  else (0, 2)

theorem dgt45 : (45 : UInt8).toNat = 45 := rfl
theorem below_itext (a : Int) : below (itext a) = decide (a < 0) := by
  unfold itext below
  split
  · simp [*]
  · obtain ⟨c, l, e⟩ : ∃ c l, decL a.toNat = c :: l := by
      cases h : decL a.toNat with
      | nil => exact absurd h (decL_ne _)
      | cons c l => exact ⟨c, l, rfl⟩
    have hc := dig_decL a.toNat c (by rw [e]; simp)
    simp [isDig] at hc
    have hne : c ≠ 45 := fun h => by subst h; simp at hc
    rw [e]; simp [*]
theorem digs_itext (a : Int) : digs (itext a) = decL (if a < 0 then (-a).toNat else a.toNat) := by
  unfold digs
  rw [below_itext]
  unfold itext
  by_cases h : a < 0 <;> simp [h]
/-- A number's text is read as the number. -/
theorem parse_itext (a : Int) (h1 : -9223372036854775808 ≤ a) (h2 : a ≤ 9223372036854775807) : parseS (itext a) = (a, 0) := by
  have hb : badHead (itext a) = false := by
    unfold badHead
    rw [digs_itext, below_itext]
    by_cases h : a < 0
    · obtain ⟨c, l, e, hc⟩ := decL_head (-a).toNat (by omega)
      have : c ≠ 48 := fun hh => by subst hh; simp at hc
      simp [h, e, this]
    · by_cases h0 : a = 0
      · subst h0; simp [decL_small]
      · obtain ⟨c, l, e, hc⟩ := decL_head a.toNat (by omega)
        have : c ≠ 48 := fun hh => by subst hh; simp at hc
        simp [h, e, this]
  have ha : (digs (itext a)).all isDig = true := by
    rw [digs_itext, List.all_eq_true]; exact dig_decL _
  unfold parseS
  rw [hb, ha, digs_itext, val_decL, below_itext]
  by_cases h : a < 0
  · simp only [h, decide_true, if_true, Bool.false_eq_true, if_false]
    rw [if_neg (by simp; omega)]
    simp; omega
  · simp only [h, decide_false, if_true, Bool.false_eq_true, if_false]
    rw [if_neg (by simp; omega)]
    simp; omega
/-- What is read has just this text. -/
theorem itext_parse (s : List UInt8) (n : Int) (h : parseS s = (n, 0)) : itext n = s := by
  unfold parseS at h
  split at h
  · simp at h
  split at h
  · rename_i hb hd
    split at h
    · simp at h
    · rename_i hv
      simp only [Prod.mk.injEq, and_true] at h
      have hd' : ∀ c ∈ digs s, isDig c = true := List.all_eq_true.1 hd
      have hne : digs s ≠ [] := fun e => by simp [badHead, e] at hb
      obtain ⟨c, r, e⟩ : ∃ c r, digs s = c :: r := by
        cases h : digs s with
        | nil => exact absurd h hne
        | cons c r => exact ⟨c, r, rfl⟩
      have hc := hd' c (by rw [e]; simp)
      simp [isDig] at hc
      have hcan : (digs s).length = 1 ∨ ∃ c r, digs s = c :: r ∧ 49 ≤ c.toNat := by
        by_cases h48 : c = 48
        · left
          rw [e]
          cases r with
          | nil => rfl
          | cons => simp [badHead, e, h48] at hb
        · right
          refine ⟨c, r, e, ?_⟩
          have : c.toNat ≠ 48 := fun hh => h48 (UInt8.toNat_inj.1 hh)
          omega
      have hl := decL_val _ (digs s) rfl hne hd' hcan
      by_cases hbl : below s = true
      · have hs : s = 45 :: digs s := by
          unfold digs; rw [if_pos hbl]
          unfold below at hbl
          cases s with
          | nil => simp at hbl
          | cons x y => simp at hbl; rw [hbl]; rfl
        have hpos : 0 < val (digs s) := by
          have h49 : 49 ≤ c.toNat := by
            rcases hcan with h1 | ⟨c', r', e', h'⟩
            · have : c ≠ 48 := fun hh => by
                simp [badHead, e, hh, hbl] at hb
              have : c.toNat ≠ 48 := fun hh => this (UInt8.toNat_inj.1 hh)
              omega
            · rw [e] at e'; simp at e'; rw [e'.1]; exact h'
          have := val_ge c r h49
          have h0 : 0 < 10 ^ r.length := Nat.pow_pos (by decide)
          rw [e]; omega
        rw [if_pos hbl] at h
        subst h
        unfold itext
        rw [if_pos (by omega), show (- -((val (digs s) : Nat) : Int)).toNat = val (digs s) by omega, hl]
        exact hs.symm
      · have hs : digs s = s := by unfold digs; rw [if_neg hbl]
        rw [if_neg hbl] at h
        subst h
        unfold itext
        rw [if_neg (by omega), Int.toNat_natCast, hl, hs]
  · simp at h
end Go.Proofs.Ytejgkbkangjfnaa
