/- What is read lies within its bounds. No program in sight. -/
import Derived.Test.YtcmpcbpdnaodmaaCodeRep
namespace Go.Proofs.Ytcmpcbpdnaodmaa
open Go.RowKit
set_option linter.unusedVariables false

theorem rawD_of {b : List UInt8} {n1 e1 n2 e2 : Nat} {b1 b2 : List UInt8} {ls : List (List UInt8)} {r1 r2 r3 : Rd} {at_ : Int} {lf : List CEnt} {li : List CIns}
    (h1 : rCount 1048576 (0, b) = (n1, e1, b1)) (h2 : (ls, r1) = loopS n1 (e1, b1) []) (h3 : rCount 1048576 r1 = (n2, e2, b2)) (h4 : (at_, lf, r2) = loopE n2 0 (e2, b2) []) (h5 : (li, r3) = loopI at_.toNat r2 []) :
    rawD b = ((li, lf, ls), r3) := by
  unfold rawD
  simp only [h1, ← h2, h3, ← h4, ← h5]
theorem rCount_bd (m : Nat) (r : Rd) : (rCount m r).1 ≤ m := by unfold rCount; split <;> simp_all
theorem unzz_I64 (n : Nat) (h : n < 18446744073709551616) : I64 (unzz n) := by unfold unzz; split <;> constructor <;> omega
theorem num_lt (r : Rd) : (rNum r).1 < 18446744073709551616 := by
  unfold rNum
  split
  · simp
  · split
    · rename_i h
      obtain ⟨n, e1, _, _, e4⟩ := takeN_inv r.2 0 0 (takeN 0 0 r.2).2.1 (takeN 0 0 r.2).2.2 (by omega) (Prod.ext h rfl)
      simp only [e1]; omega
    · simp
theorem rOp_lt (r : Rd) : (rOp r).1 < 256 := by
  unfold rOp
  split
  · simp
  · split
    · simp
    · rename_i c b _; exact UInt8.toNat_lt c
theorem rIns_wide (r : Rd) : insWide (rIns r).1 := by
  have h1 := rOp_lt r
  have h2 := unzz_I64 _ (num_lt (rOp r).2)
  have h3 := rCount_bd 2147483647 (rSigned (rOp r).2).2
  refine ⟨h1, h2, ?_⟩
  show I64 ((rCount 2147483647 (rSigned (rOp r).2).2).1 : Int)
  constructor <;> omega
theorem rEnt_wide (at_ : Int) (h : I64 at_) (r : Rd) : entWide (rEnt at_ r).1 ∧ 0 ≤ (rEnt at_ r).1.2.1 ∧ (rEnt at_ r).1.2.1 ≤ 1048576 := by
  have h1 := rCount_bd 1048576 r
  have h2 := rCount_bd 1048576 (rCount 1048576 r).2
  have h3 := rCount_bd 1048576 (rCount 1048576 (rCount 1048576 r).2).2
  have h4 := rCount_bd 1048576 (rCount 1048576 (rCount 1048576 (rCount 1048576 r).2).2).2
  refine ⟨⟨h, ?_, ?_, ?_, ?_⟩, ?_, ?_⟩
  · show I64 ((rCount 1048576 r).1 : Int); constructor <;> omega
  · show I64 ((rCount 1048576 (rCount 1048576 r).2).1 : Int); constructor <;> omega
  · show I64 ((rCount 1048576 (rCount 1048576 (rCount 1048576 r).2).2).1 : Int); constructor <;> omega
  · show I64 ((rCount 1048576 (rCount 1048576 (rCount 1048576 (rCount 1048576 r).2).2).2).1 : Int); constructor <;> omega
  · show 0 ≤ ((rCount 1048576 r).1 : Int); omega
  · show ((rCount 1048576 r).1 : Int) ≤ 1048576; omega
theorem rText_len (r : Rd) : (rText r).1.length ≤ 1048576 := by
  have h := rCount_bd 1048576 r
  unfold rText
  split
  · simp
  · split
    · simp
    · simp only [List.length_take]; omega
theorem loopI_wide : ∀ (n : Nat) (r : Rd) (acc : List CIns), (∀ x ∈ acc, insWide x) → ∀ x ∈ (loopI n r acc).1, insWide x := by
  intro n
  induction n with
  | zero => intro r acc h; exact h
  | succ n ih =>
    intro r acc h
    rw [loopI]
    split
    · exact h
    · refine ih _ _ (fun x hx => ?_)
      rcases List.mem_append.1 hx with hx | hx
      · exact h x hx
      · rw [List.mem_singleton.1 hx]; exact rIns_wide r
theorem loopE_wide : ∀ (n : Nat) (at_ : Int) (r : Rd) (acc : List CEnt), 0 ≤ at_ → at_ + n * 1048576 ≤ 1099511627776 → (∀ x ∈ acc, entWide x) → ∀ x ∈ (loopE n at_ r acc).2.1, entWide x := by
  intro n
  induction n with
  | zero => intro at_ r acc _ _ h; exact h
  | succ n ih =>
    intro at_ r acc h0 h1 h
    rw [loopE]
    split
    · exact h
    · obtain ⟨w1, w2, w3⟩ := rEnt_wide at_ ⟨by omega, by omega⟩ r
      refine ih _ _ _ (by omega) (by omega) (fun x hx => ?_)
      rcases List.mem_append.1 hx with hx | hx
      · exact h x hx
      · rw [List.mem_singleton.1 hx]; exact w1
theorem loopS_wide : ∀ (n : Nat) (r : Rd) (acc : List (List UInt8)), (∀ x ∈ acc, x.length ≤ 1048576) → ∀ x ∈ (loopS n r acc).1, x.length ≤ 1048576 := by
  intro n
  induction n with
  | zero => intro r acc h; exact h
  | succ n ih =>
    intro r acc h
    rw [loopS]
    split
    · exact h
    · refine ih _ _ (fun x hx => ?_)
      rcases List.mem_append.1 hx with hx | hx
      · exact h x hx
      · rw [List.mem_singleton.1 hx]; exact rText_len r
theorem loopS_len : ∀ (n : Nat) (r : Rd) (acc : List (List UInt8)), (loopS n r acc).1.length ≤ acc.length + n := by
  intro n
  induction n with
  | zero => intro r acc; exact Nat.le_refl _
  | succ n ih => intro r acc; rw [loopS]; split
                 · simp
                 · have := ih (rText r).2 (acc ++ [(rText r).1]); simp at this; omega
theorem rawD_stuck {b : List UInt8} {n1 e1 : Nat} {b1 : List UInt8} {e : Nat} (h1 : rCount 1048576 (0, b) = (n1, e1, b1)) (h2 : (loopS n1 (e1, b1) []).2.1 = e) (he : e ≠ 0) : (rawD b).2.1 = e := by
  have hs : (loopS n1 (e1, b1) []).2.1 ≠ 0 := by rw [h2]; exact he
  have hc := rCount_stuck (m := 1048576) hs
  unfold rawD
  simp only [h1, hc, loopE, loopI, h2, Int.toNat_zero]
theorem decC_err {b : List UInt8} {e : Nat} (h : (rawD b).2.1 = e) (he : e ≠ 0) : decC b = (([], [], []), e) := by
  unfold decC; rw [h, if_pos he]
theorem rIns_short : rIns (0, []) = ((0, 0, 0), 15, []) := by decide +kernel
theorem rIns_bad {rb : List UInt8} {x : Nat} (h : 0 < rb.length) (hx : rb[0].toNat = x) (hb : x < 1 ∨ 26 < x) : (rIns (0, rb)).2.1 = 23 := by
  subst hx
  cases rb with
  | nil => simp at h
  | cons c t =>
    replace hb : c.toNat < 1 ∨ 26 < c.toNat := hb
    have h1 : rOp (0, c :: t) = (c.toNat, 23, t) := by
      show (c.toNat, (if c.toNat < 1 ∨ 26 < c.toNat then 23 else 0), t) = _
      rw [if_pos hb]
    have h2 : rNum (23, t) = (0, 23, t) := rNum_stuck (r := (23, t)) (by simp)
    have h3 : rSigned (23, t) = (0, 23, t) := by unfold rSigned; simp only [h2]; rfl
    have h4 : rCount 2147483647 (23, t) = (0, 23, t) := rCount_stuck (r := (23, t)) (by simp)
    unfold rIns; simp only [h1, h3, h4]
theorem rIns_good {rb b1 b2 : List UInt8} {u e1 l e2 x : Nat} (h : 0 < rb.length) (hx : rb[0].toNat = x) (hb : ¬(x < 1 ∨ 26 < x)) (h1 : rNum (0, rb.drop 1) = (u, e1, b1)) (h2 : rCount 2147483647 (e1, b1) = (l, e2, b2)) :
    rIns (0, rb) = ((x, unzz u, (l : Int)), e2, b2) := by
  subst hx
  cases rb with
  | nil => simp at h
  | cons c t =>
    replace hb : ¬(c.toNat < 1 ∨ 26 < c.toNat) := hb
    have h0 : rOp (0, c :: t) = (c.toNat, 0, t) := by
      show (c.toNat, (if c.toNat < 1 ∨ 26 < c.toNat then 23 else 0), t) = _
      rw [if_neg hb]
    have h3 : rSigned (0, t) = (unzz u, e1, b1) := by unfold rSigned; simp only [show rNum (0, t) = (u, e1, b1) from h1]
    unfold rIns; simp only [h0, h3, h2]; rfl
theorem decC_cases {b : List UInt8} {c : CCode} {e : Nat} {rb : List UInt8} (h : rawD b = (c, e, rb)) :
    decC b = if e ≠ 0 then (([], [], []), e) else if 0 < rb.length then (([], [], []), 16) else if mayC c then (c, 0) else (([], [], []), 2) := by
  unfold decC; simp only [h]
end Go.Proofs.Ytcmpcbpdnaodmaa
