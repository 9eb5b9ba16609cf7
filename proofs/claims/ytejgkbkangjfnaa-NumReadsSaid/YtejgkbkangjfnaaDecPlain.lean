/- Decimal texts of numbers: plain lists of bytes, no program in sight. -/
import Derived.RowKit
import GoSem.Op.String
namespace Go.Proofs.Ytejgkbkangjfnaa
open Go.RowKit

/-- The digit's byte. -/
def dgt (n : Nat) : UInt8 := UInt8.ofNat (48 + n)
theorem dgt_toNat {n : Nat} (h : n < 10) : (dgt n).toNat = 48 + n := by
  unfold dgt; rw [UInt8.toNat_ofNat']; omega
/-- The last j digits. -/
def suf (N : Nat) : Nat → List UInt8
  | 0 => []
  | j + 1 => dgt (N / 10 ^ j % 10) :: suf N j
theorem suf_len (N j : Nat) : (suf N j).length = j := by induction j with | zero => rfl | succ j ih => simp [suf, ih]
def decF : Nat → Nat → List UInt8
  | 0, n => [dgt n]
  | f + 1, n => if n < 10 then [dgt n] else decF f (n / 10) ++ [dgt (n % 10)]
/-- A number's digits. -/
def decL (n : Nat) : List UInt8 := decF n n
theorem decF_ext : ∀ f g n : Nat, n ≤ f → n ≤ g → decF f n = decF g n := by
  intro f
  induction f with
  | zero => intro g n hf hg; obtain rfl : n = 0 := by omega
            cases g <;> simp [decF]
  | succ f ih => intro g n hf hg
                 cases g with
                 | zero => obtain rfl : n = 0 := by omega
                           simp [decF]
                 | succ g => simp only [decF]; split
                             · rfl
                             · rw [ih g (n / 10) (by omega) (by omega)]
theorem decL_small {n : Nat} (h : n < 10) : decL n = [dgt n] := by unfold decL; cases n <;> simp [decF]; omega
theorem decL_big {n : Nat} (h : 10 ≤ n) : decL n = decL (n / 10) ++ [dgt (n % 10)] := by
  unfold decL
  obtain ⟨m, rfl⟩ : ∃ m, n = m + 1 := ⟨n - 1, by omega⟩
  rw [decF, if_neg (by omega), decF_ext m ((m + 1) / 10) ((m + 1) / 10) (by omega) (by omega)]
theorem suf_append (N j : Nat) : suf N (j + 1) = suf (N / 10) j ++ [dgt (N % 10)] := by
  induction j with
  | zero => simp [suf]
  | succ j ih => rw [suf, ih, suf, List.cons_append, Nat.div_div_eq_div_mul, Nat.pow_succ, Nat.mul_comm 10]
theorem suf_dec : ∀ j N : Nat, N / 10 ^ j = 0 → 1 ≤ j → (j = 1 ∨ N / 10 ^ (j - 1) ≠ 0) → suf N j = decL N := by
  intro j
  induction j with
  | zero => intro N _ h; omega
  | succ j ih =>
    intro N h0 h1 h2
    by_cases hj : j = 0
    · subst hj
      simp at h0
      rw [decL_small h0]; simp [suf, Nat.mod_eq_of_lt h0]
    · have h3 : N / 10 ^ j ≠ 0 := by simpa [hj] using h2
      have h10 : 10 ≤ N := by
        rcases Nat.lt_or_ge N 10 with h | h
        · exfalso; apply h3
          refine Nat.div_eq_of_lt (Nat.lt_of_lt_of_le h ?_)
          calc 10 = 10 ^ 1 := rfl
            _ ≤ 10 ^ j := Nat.pow_le_pow_right (by decide) (by omega)
        · exact h
      rw [suf_append, decL_big h10, ih (N / 10) (by rw [Nat.div_div_eq_div_mul, Nat.mul_comm, ← Nat.pow_succ]; exact h0) (by omega) ?_]
      by_cases h : j = 1
      · exact .inl h
      · right
        rw [Nat.div_div_eq_div_mul, Nat.mul_comm, ← Nat.pow_succ, show (j - 1).succ = j by omega]
        exact h3
/-- The text of a number. -/
def itext (a : Int) : List UInt8 := if a < 0 then 45 :: decL (-a).toNat else decL a.toNat

/-- What digits are worth. -/
def val (l : List UInt8) : Nat := l.foldl (fun v c => 10 * v + (c.toNat - 48)) 0
def isDig (c : UInt8) : Bool := decide (48 ≤ c.toNat ∧ c.toNat ≤ 57)
theorem val_snoc (l : List UInt8) (c : UInt8) : val (l ++ [c]) = 10 * val l + (c.toNat - 48) := by simp [val]
theorem val_acc (l : List UInt8) : ∀ a, l.foldl (fun v c => 10 * v + (c.toNat - 48)) a = a * 10 ^ l.length + val l := by
  unfold val
  induction l with
  | nil => intro a; simp
  | cons c l ih =>
    intro a
    simp only [List.foldl_cons, List.length_cons]
    rw [ih (10 * a + (c.toNat - 48)), ih (10 * 0 + (c.toNat - 48)), Nat.pow_succ, Nat.add_mul, Nat.mul_comm 10 a, Nat.mul_assoc, Nat.mul_comm 10]
    simp; omega
theorem val_cons (c : UInt8) (l : List UInt8) : val (c :: l) = (c.toNat - 48) * 10 ^ l.length + val l := by
  rw [val, List.foldl_cons, val_acc]; simp
theorem val_lt (l : List UInt8) (h : ∀ c ∈ l, isDig c = true) : val l < 10 ^ l.length := by
  induction l with
  | nil => simp [val]
  | cons c l ih =>
    have hc := h c (by simp)
    simp [isDig] at hc
    have := ih fun x hx => h x (by simp [hx])
    rw [val_cons, List.length_cons, Nat.pow_succ]
    have h9 : (c.toNat - 48) * 10 ^ l.length ≤ 9 * 10 ^ l.length := Nat.mul_le_mul_right _ (by omega)
    omega
theorem val_ge (c : UInt8) (l : List UInt8) (h : 49 ≤ c.toNat) : 10 ^ l.length ≤ val (c :: l) := by
  rw [val_cons]
  have : 1 * 10 ^ l.length ≤ (c.toNat - 48) * 10 ^ l.length := Nat.mul_le_mul_right _ (by omega)
  omega
theorem val_decL (n : Nat) : val (decL n) = n := by
  induction n using Nat.strongRecOn with
  | _ n ih =>
    by_cases h : n < 10
    · rw [decL_small h]; simp [val, dgt_toNat h]
    · rw [decL_big (by omega), val_snoc, ih _ (by omega), dgt_toNat (by omega)]; omega
theorem dig_decL (n : Nat) : ∀ c ∈ decL n, isDig c = true := by
  induction n using Nat.strongRecOn with
  | _ n ih =>
    by_cases h : n < 10
    · rw [decL_small h]; simp [isDig, dgt_toNat h]; omega
    · rw [decL_big (by omega)]
      intro c hc
      rcases List.mem_append.1 hc with hc | hc
      · exact ih _ (by omega) c hc
      · simp at hc; subst hc; simp [isDig, dgt_toNat (show n % 10 < 10 by omega)]; omega
theorem decL_ne (n : Nat) : decL n ≠ [] := by
  by_cases h : n < 10
  · rw [decL_small h]; simp
  · rw [decL_big (by omega)]; simp
/-- The first digit is no 0, but of 0 alone. -/
theorem decL_head (n : Nat) (h : 1 ≤ n) : ∃ c l, decL n = c :: l ∧ 49 ≤ c.toNat := by
  induction n using Nat.strongRecOn with
  | _ n ih =>
    by_cases h10 : n < 10
    · exact ⟨dgt n, [], decL_small h10, by rw [dgt_toNat h10]; omega⟩
    · obtain ⟨c, l, e, hc⟩ := ih (n / 10) (by omega) (by omega)
      exact ⟨c, l ++ [dgt (n % 10)], by rw [decL_big (by omega), e]; rfl, hc⟩
/-- Digits without noughts ahead are the text of what they are worth. -/
theorem decL_val : ∀ k : Nat, ∀ l : List UInt8, l.length = k → l ≠ [] → (∀ c ∈ l, isDig c = true) → (l.length = 1 ∨ ∃ c r, l = c :: r ∧ 49 ≤ c.toNat) → decL (val l) = l := by
  intro k
  induction k with
  | zero => intro l hl hne; simp at hl; exact absurd hl hne
  | succ k ih =>
    intro l hl hne hd hh
    obtain ⟨l', c, rfl⟩ : ∃ l' c, l = l' ++ [c] := ⟨l.dropLast, l.getLast hne, (List.dropLast_concat_getLast hne).symm⟩
    have hc := hd c (by simp)
    simp [isDig] at hc
    rw [val_snoc]
    by_cases hl' : l' = []
    · subst hl'
      rw [show val [] = 0 from rfl, decL_small (by omega)]
      simp
      apply UInt8.toNat_inj.1
      rw [dgt_toNat (by omega)]; omega
    · have hh' : ∃ x r, l' = x :: r ∧ 49 ≤ x.toNat := by
        rcases hh with h1 | ⟨x, r, e, hx⟩
        · simp at h1; exact absurd h1 hl'
        · cases l' with
          | nil => exact absurd rfl hl'
          | cons y ys => simp at e; exact ⟨y, ys, rfl, by rw [e.1]; exact hx⟩
      obtain ⟨x, r, e, hx⟩ := hh'
      have hv : 1 ≤ val l' := by
        have := val_ge x r hx
        rw [e]; have h0 : 0 < 10 ^ r.length := Nat.pow_pos (by decide); omega
      have hi := ih l' (by simpa using hl) hl' (fun z hz => hd z (by simp [hz])) (.inr ⟨x, r, e, hx⟩)
      rw [decL_big (by omega), show (10 * val l' + (c.toNat - 48)) / 10 = val l' by omega, show (10 * val l' + (c.toNat - 48)) % 10 = c.toNat - 48 by omega, hi]
      congr 2
      apply UInt8.toNat_inj.1
      rw [dgt_toNat (by omega)]; omega
/-- Of digits of one length the lesser ones are worth less. -/
theorem less_val : ∀ x y : List UInt8, x.length = y.length → (∀ c ∈ x, isDig c = true) → (∀ c ∈ y, isDig c = true) → Op.bytesLess x y = decide (val x < val y) := by
  intro x
  induction x with
  | nil => intro y h _ _; cases y with
           | nil => simp [Op.bytesLess]
           | cons => simp at h
  | cons a x ih =>
    intro y h hx hy
    cases y with
    | nil => simp at h
    | cons b y =>
      have ha := hx a (by simp); have hb := hy b (by simp)
      simp [isDig] at ha hb
      have hl : x.length = y.length := by simpa using h
      have e := ih y hl (fun c hc => hx c (by simp [hc])) (fun c hc => hy c (by simp [hc]))
      have lx := val_lt x fun c hc => hx c (by simp [hc])
      have ly := val_lt y fun c hc => hy c (by simp [hc])
      rw [val_cons, val_cons]
      rw [hl] at lx ⊢
      simp only [Op.bytesLess, e]
      rcases Nat.lt_trichotomy a.toNat b.toNat with h1 | h1 | h1
      · have h2 : (a.toNat - 48 + 1) * 10 ^ y.length ≤ (b.toNat - 48) * 10 ^ y.length := Nat.mul_le_mul_right _ (by omega)
        rw [Nat.add_mul] at h2
        have h3 : a < b := UInt8.lt_iff_toNat_lt.2 h1
        have h4 : ¬ b < a := fun h => by have := UInt8.lt_iff_toNat_lt.1 h; omega
        simp [h3, h4]; omega
      · have : a = b := UInt8.toNat_inj.1 h1
        subst this
        simp
      · have h2 : (b.toNat - 48 + 1) * 10 ^ y.length ≤ (a.toNat - 48) * 10 ^ y.length := Nat.mul_le_mul_right _ (by omega)
        rw [Nat.add_mul] at h2
        have h3 : b < a := UInt8.lt_iff_toNat_lt.2 h1
        have h4 : ¬ a < b := fun h => by have := UInt8.lt_iff_toNat_lt.1 h; omega
        have h5 : (a == b) = false := by
          rw [beq_eq_false_iff_ne]; intro e; subst e; omega
        simp [h4, h5]; omega
end Go.Proofs.Ytejgkbkangjfnaa
