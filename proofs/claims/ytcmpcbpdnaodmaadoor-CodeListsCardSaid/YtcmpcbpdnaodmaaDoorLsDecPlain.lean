/- Parts of the proof. -/
import Derived.RowKit
import GoSem.Op.String
namespace Go.Proofs.YtcmpcbpdnaodmaaDoor
open Go.RowKit
def dgt (n : Nat) : UInt8 := UInt8.ofNat (48 + n)
def suf (N : Nat) : Nat → List UInt8
  | 0 => []
  | j + 1 => dgt (N / 10 ^ j % 10) :: suf N j
theorem suf_len (N j : Nat) : (suf N j).length = j := by induction j with | zero => rfl | succ j ih => simp [suf, ih]
def decF : Nat → Nat → List UInt8
  | 0, n => [dgt n]
  | f + 1, n => if n < 10 then [dgt n] else decF f (n / 10) ++ [dgt (n % 10)]
def decP (n : Nat) : List UInt8 := decF n n
theorem decF_ext : ∀ f g n : Nat, n ≤ f → n ≤ g → decF f n = decF g n := by
  intro f
  induction f with
  | zero => intro g n hf hg; obtain rfl : n = 0 := by omega
            cases g <;> simp [decF]
  | succ f ih => intro g n hf hg
                 cases g with
                 | zero => obtain rfl : n = 0 := by omega
                           simp [decF]
                 | succ g => simp only [decF]; split
                             · rfl
                             · rw [ih g (n / 10) (by omega) (by omega)]
theorem decP_small {n : Nat} (h : n < 10) : decP n = [dgt n] := by unfold decP; cases n <;> simp [decF]; omega
theorem decP_big {n : Nat} (h : 10 ≤ n) : decP n = decP (n / 10) ++ [dgt (n % 10)] := by
  unfold decP
  obtain ⟨m, rfl⟩ : ∃ m, n = m + 1 := ⟨n - 1, by omega⟩
  rw [decF, if_neg (by omega), decF_ext m ((m + 1) / 10) ((m + 1) / 10) (by omega) (by omega)]
theorem suf_append (N j : Nat) : suf N (j + 1) = suf (N / 10) j ++ [dgt (N % 10)] := by
  induction j with
  | zero => simp [suf]
  | succ j ih => rw [suf, ih, suf, List.cons_append, Nat.div_div_eq_div_mul, Nat.pow_succ, Nat.mul_comm 10]
theorem suf_dec : ∀ j N : Nat, N / 10 ^ j = 0 → 1 ≤ j → (j = 1 ∨ N / 10 ^ (j - 1) ≠ 0) → suf N j = decP N := by
  intro j
  induction j with
  | zero => intro N _ h; omega
  | succ j ih =>
    intro N h0 h1 h2
    by_cases hj : j = 0
    · subst hj
      simp at h0
      rw [decP_small h0]; simp [suf, Nat.mod_eq_of_lt h0]
    · have h3 : N / 10 ^ j ≠ 0 := by simpa [hj] using h2
      have h10 : 10 ≤ N := by
        rcases Nat.lt_or_ge N 10 with h | h
        · exfalso; apply h3
          refine Nat.div_eq_of_lt (Nat.lt_of_lt_of_le h ?_)
          calc 10 = 10 ^ 1 := rfl
            _ ≤ 10 ^ j := Nat.pow_le_pow_right (by decide) (by omega)
        · exact h
      rw [suf_append, decP_big h10, ih (N / 10) (by rw [Nat.div_div_eq_div_mul, Nat.mul_comm, ← Nat.pow_succ]; exact h0) (by omega) ?_]
      by_cases h : j = 1
      · exact .inl h
      · right
        rw [Nat.div_div_eq_div_mul, Nat.mul_comm, ← Nat.pow_succ, show (j - 1).succ = j by omega]
        exact h3
def itext (a : Int) : List UInt8 := if a < 0 then 45 :: decP (-a).toNat else decP a.toNat
def val (l : List UInt8) : Nat := l.foldl (fun v c => 10 * v + (c.toNat - 48)) 0
end Go.Proofs.YtcmpcbpdnaodmaaDoor
