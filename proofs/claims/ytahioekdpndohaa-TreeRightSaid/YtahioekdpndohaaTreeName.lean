/- Which texts are names, and great ones: what the program says. -/
import Derived.Test.YtahioekdpndohaaTreeKin
namespace Go.Proofs.Ytahioekdpndohaa
open Go.RowKit
set_option linter.unusedVariables false
def words : List (List UInt8) := [[114, 101, 99], [102, 110], [118, 97, 114], [105, 102], [101, 108, 115, 101], [119, 104, 105, 108, 101], [114, 101, 116, 117, 114, 110], [112, 114, 105, 110, 116], [116, 114, 117, 101], [102, 97, 108, 115, 101], [110, 105, 108], [109, 97, 107, 101], [105, 110, 116], [98, 111, 111, 108], [115, 116, 114], [99, 111, 109, 112]]
def small (b : UInt8) : Bool := b.toNat == 95 || (decide (97 ≤ b.toNat) && decide (b.toNat ≤ 122))
def big (b : UInt8) : Bool := decide (65 ≤ b.toNat) && decide (b.toNat ≤ 90)
def digit (b : UInt8) : Bool := decide (48 ≤ b.toNat) && decide (b.toNat ≤ 57)
def inName (b : UInt8) : Bool := small b || big b || digit b
def lettersS (s : List UInt8) (first : UInt8 → Bool) : Bool := (match s with | [] => false | b :: _ => first b) && !(words.contains s) && s.all inName
def nameS (s : List UInt8) : Bool := lettersS s small
def greatS (s : List UInt8) : Bool := lettersS s big
theorem word_spec (s : List UInt8) : lex_Word s = some (words.contains s) := by
  have key : ∀ (w : List UInt8) (X : Option Bool) (c : Bool), X = some c → (if s = w then some true else X) = some (s == w || c) := fun w X c h => by
    by_cases e : s = w
    · rw [if_pos e]; simp [e]
    · rw [if_neg e, h]; simp [e]
  unfold lex_Word words
  simp only [List.contains_cons, List.contains_nil]
  repeat refine key _ _ _ ?_
  rfl
theorem inName_high {b : UInt8} (h : 128 ≤ b.toNat) : inName b = false := by
  unfold inName small big digit
  simp
  omega
theorem letters_loop (s : List UInt8) : ∀ (n p : Nat), s.length - p ≤ n → p ≤ s.length → tree_letters_l0 s p = some ((s.drop p).all inName) := by
  intro n
  induction n with
  | zero =>
    intro p hn hp
    have : p = s.length := by omega
    subst this
    rw [tree_letters_l0_eq, if_neg (by omega), tree_letters_j1_eq]; simp
  | succ n ih =>
    intro p hn hp
    by_cases h : p < s.length
    · have hd : s.drop p = s[p] :: s.drop (p + 1) := List.drop_eq_getElem_cons h
      rw [tree_letters_l0_eq, if_pos h, hd, List.all_cons]
      by_cases ha : s[p].toNat < 128
      · rw [ascii_decode h ha]
        have hr := ih (p + 1) (by omega) (by omega)
        simp only
        rw [hr]
        have e : inName s[p] = true ↔ (s[p].toNat = 95 ∨ (97 ≤ s[p].toNat ∧ s[p].toNat ≤ 122) ∨ (65 ≤ s[p].toNat ∧ s[p].toNat ≤ 90) ∨ (48 ≤ s[p].toNat ∧ s[p].toNat ≤ 57)) := by
          unfold inName small big digit; simp; omega
        generalize hX : (s.drop (p + 1)).all inName = X
        by_cases hin : inName s[p] = true
        · rw [hin, Bool.true_and]
          have := e.1 hin
          repeat' split
          all_goals first | rfl | (exfalso; omega)
        · have hf : inName s[p] = false := by simpa using hin
          rw [hf, Bool.false_and]
          have : ¬ _ := fun h => hin (e.2 h)
          repeat' split
          all_goals first | rfl | (exfalso; omega)
      · have hh := high_decode h (by omega : 128 ≤ s[p].toNat)
        rw [inName_high (by omega), Bool.false_and]
        repeat' split
        all_goals first | rfl | (exfalso; omega)
    · have : p = s.length := by omega
      subst this
      rw [tree_letters_l0_eq, if_neg (by omega), tree_letters_j1_eq]; simp
theorem letters_spec (s : List UInt8) (f : Fv42) (first : UInt8 → Bool) (hf : ∀ b : UInt8, f.run (b.toNat : Int) = some (first b)) : tree_letters s f = some (lettersS s first) := by
  unfold tree_letters lettersS
  cases s with
  | nil => simp
  | cons b s =>
    rw [if_neg (by simp), show getI (b :: s) 0 = some b from rfl, obind_some, hf, obind_some]
    show _ = some (first b && !(words.contains (b :: s)) && (b :: s).all inName)
    cases first b with
    | false => simp
    | true =>
      rw [if_pos rfl, word_spec, obind_some]
      have := letters_loop (b :: s) (b :: s).length 0 (by omega) (by omega)
      rw [this, List.drop_zero]
      cases words.contains (b :: s) <;> simp
theorem name_spec (s : List UInt8) : tree_Name s = some (nameS s) := by
  unfold tree_Name nameS
  rw [letters_spec s _ small, obind_some]
  intro b
  show tree_Name_1 (b.toNat : Int) = _
  unfold tree_Name_1 small
  repeat' split
  all_goals (rw [Option.some.injEq, Bool.eq_iff_iff]; first | (simp; done) | (simp; omega))
theorem great_spec (s : List UInt8) : tree_Great s = some (greatS s) := by
  unfold tree_Great greatS
  rw [letters_spec s _ big, obind_some]
  intro b
  show tree_Great_1 (b.toNat : Int) = _
  unfold tree_Great_1 big
  repeat' split
  all_goals (rw [Option.some.injEq, Bool.eq_iff_iff]; first | (simp; done) | (simp; omega))
end Go.Proofs.Ytahioekdpndohaa
