/- Layer 15 in plain lists: there and back. -/
import Derived.Test.YtcmpcbpdnaodmaaCodePlain
namespace Go.Proofs.Ytcmpcbpdnaodmaa
open Go.RowKit

theorem b8_toNat {n : Nat} (h : n < 256) : (b8 n).toNat = n := by unfold b8; rw [UInt8.toNat_ofNat']; omega
theorem b8_of (c : UInt8) : b8 c.toNat = c := by apply UInt8.toNat_inj.1; rw [b8_toNat (UInt8.toNat_lt c)]
theorem pw7 (i : Nat) (h : i ≤ 9) : (2 : Nat) ^ (7 * i) ≤ 2 ^ 63 := Nat.pow_le_pow_right (by decide) (by omega)
theorem pw7s (i : Nat) : (2 : Nat) ^ (7 * (i + 1)) = 2 ^ (7 * i) * 128 := by rw [show 7 * (i + 1) = 7 * i + 7 by omega, Nat.pow_add]
theorem takeN_uv : ∀ n i acc : Nat, ∀ r : List UInt8, n * 2 ^ (7 * i) < 2 ^ 64 → i ≤ 9 → (0 < i → 1 ≤ n) → takeN i acc (uv n ++ r) = (0, acc + n * 2 ^ (7 * i), r) := by
  intro n
  induction n using Nat.strongRecOn with
  | _ n ih =>
    intro i acc r hb hi hn
    have h9 : i = 9 → n ≤ 1 := fun e => by subst e; simp at hb; omega
    by_cases h : n < 128
    · rw [uv_small h]
      simp only [List.cons_append, List.nil_append, takeN, b8_toNat (show n < 256 by omega)]
      rw [if_neg (by omega), if_pos h, Nat.mod_eq_of_lt h]
    · rw [uv_big (by omega)]
      simp only [List.cons_append, takeN, b8_toNat (show n % 128 + 128 < 256 by omega)]
      have hi8 : i ≠ 9 := fun e => by have := h9 e; omega
      rw [if_neg (by omega), if_neg (by omega)]
      have hd : n / 128 * 2 ^ (7 * (i + 1)) ≤ n * 2 ^ (7 * i) := by
        rw [pw7s, Nat.mul_comm (2 ^ (7 * i)), ← Nat.mul_assoc]
        exact Nat.mul_le_mul_right _ (Nat.div_mul_le_self n 128)
      rw [ih (n / 128) (by omega) (i + 1) _ r (by omega) (by omega) (fun _ => by omega)]
      congr 2
      rw [pw7s, Nat.mul_comm (2 ^ (7 * i)) 128, ← Nat.mul_assoc, Nat.add_assoc, ← Nat.add_mul]
      congr 2; omega
theorem takeN_inv : ∀ (l : List UInt8) (i acc v : Nat) (rest : List UInt8), i ≤ 9 → takeN i acc l = (0, v, rest) → ∃ n, v = acc + n * 2 ^ (7 * i) ∧ l = uv n ++ rest ∧ (0 < i → 1 ≤ n) ∧ n * 2 ^ (7 * i) < 2 ^ 64 := by
  intro l
  induction l with
  | nil => intro i acc v rest _ h; simp [takeN] at h
  | cons c r ih =>
    intro i acc v rest hi h
    have hc := UInt8.toNat_lt c
    simp only [takeN] at h
    split at h
    · simp at h
    · rename_i hbad
      split at h
      · rename_i h128
        simp only [Prod.mk.injEq, true_and] at h
        obtain ⟨rfl, rfl⟩ := h
        refine ⟨c.toNat, by rw [Nat.mod_eq_of_lt h128], by rw [uv_small h128, b8_of]; rfl, by omega, ?_⟩
        by_cases h9 : i = 9
        · subst h9
          have : c.toNat ≤ 1 := by omega
          have := Nat.mul_le_mul_right (2 ^ 63) this
          simpa using Nat.lt_of_le_of_lt this (by decide)
        · have h1 : (2 : Nat) ^ (7 * i) ≤ 2 ^ 56 := Nat.pow_le_pow_right (by decide) (by omega)
          have h2 := Nat.mul_le_mul (show c.toNat ≤ 127 by omega) h1
          exact Nat.lt_of_le_of_lt h2 (by decide)
      · rename_i h128
        have hi8 : i ≠ 9 := by omega
        obtain ⟨n, hv, hl, hn, hb⟩ := ih (i + 1) _ v rest (by omega) h
        have hn1 := hn (by omega)
        refine ⟨c.toNat - 128 + 128 * n, ?_, ?_, by omega, ?_⟩
        · rw [hv, pw7s, show c.toNat % 128 = c.toNat - 128 by omega, Nat.add_mul, Nat.mul_comm (2 ^ (7 * i)) 128, Nat.mul_comm 128 n, ← Nat.mul_assoc]; omega
        · rw [uv_big (by omega), show (c.toNat - 128 + 128 * n) % 128 + 128 = c.toNat by omega, b8_of, show (c.toNat - 128 + 128 * n) / 128 = n by omega, List.cons_append, ← hl]
        · have h1 : c.toNat - 128 + 128 * n < 128 * (n + 1) := by omega
          rw [pw7s] at hb
          have h2 : (2 : Nat) ^ (7 * i) * 128 ∣ 2 ^ 64 := by
            rw [show (128 : Nat) = 2 ^ 7 by decide, ← Nat.pow_add]
            exact Nat.pow_dvd_pow 2 (by omega)
          obtain ⟨q, hq⟩ := h2
          rw [hq] at hb ⊢
          have h3 : n < q := by
            rw [Nat.mul_comm n] at hb
            exact Nat.lt_of_mul_lt_mul_left hb
          have h4 : (n + 1) * (2 ^ (7 * i) * 128) ≤ q * (2 ^ (7 * i) * 128) := Nat.mul_le_mul_right _ h3
          have h5 : (c.toNat - 128 + 128 * n) * 2 ^ (7 * i) < 128 * (n + 1) * 2 ^ (7 * i) := Nat.mul_lt_mul_of_pos_right h1 (Nat.pow_pos (by decide))
          rw [Nat.mul_comm (2 ^ (7 * i) * 128) q]
          refine Nat.lt_of_lt_of_le h5 (Nat.le_trans (Nat.le_of_eq ?_) h4)
          rw [Nat.mul_comm 128, Nat.mul_assoc, Nat.mul_comm 128]

theorem rNum_uv (n : Nat) (h : n < 2 ^ 64) (r : List UInt8) : rNum (0, uv n ++ r) = (n, 0, r) := by
  have := takeN_uv n 0 0 r (by simpa using h) (by omega) (by omega)
  simp only [Nat.mul_zero, Nat.pow_zero, Nat.mul_one, Nat.zero_add] at this
  simp [rNum, this]
theorem rNum_inv {b b' : List UInt8} {n : Nat} (h : rNum (0, b) = (n, 0, b')) : b = uv n ++ b' ∧ n < 2 ^ 64 := by
  unfold rNum at h
  simp only [ne_eq, not_true_eq_false, if_false] at h
  split at h
  · rename_i h0
    generalize ht : takeN 0 0 b = t at *
    obtain ⟨e, v, rest⟩ := t
    simp only [Prod.mk.injEq, true_and] at h h0
    subst h0
    obtain ⟨rfl, rfl⟩ := h
    obtain ⟨m, hv, hl, _, hb⟩ := takeN_inv b 0 0 v rest (by omega) ht
    simp at hv hb
    subst hv
    exact ⟨hl, hb⟩
  · rename_i h0
    simp only [Prod.mk.injEq] at h
    exact absurd h.2.1 h0
theorem rNum_stuck {r : Rd} (h : r.1 ≠ 0) : rNum r = (0, r) := by unfold rNum; rw [if_pos h]
theorem rCount_stuck {m : Nat} {r : Rd} (h : r.1 ≠ 0) : rCount m r = (0, r) := by unfold rCount; rw [rNum_stuck h]; simp
theorem rCount_uv {m n : Nat} (hm : n ≤ m) (h : n < 2 ^ 64) (r : List UInt8) : rCount m (0, uv n ++ r) = (n, 0, r) := by
  unfold rCount; rw [rNum_uv n h, if_neg (by simp; omega)]
theorem rCount_inv {m n : Nat} {b b' : List UInt8} (h : rCount m (0, b) = (n, 0, b')) : b = uv n ++ b' ∧ n ≤ m ∧ n < 2 ^ 64 := by
  unfold rCount at h
  split at h
  · simp at h
  · rename_i hm
    rw [h] at hm
    obtain ⟨h1, h2⟩ := rNum_inv h
    exact ⟨h1, by simpa using hm, h2⟩
theorem unzz_zz (a : Int) : unzz (zz a) = a := by unfold unzz zz; split <;> split <;> omega
theorem zz_unzz (n : Nat) : zz (unzz n) = n := by unfold unzz zz; split <;> split <;> omega
theorem zz_lt (a : Int) (h0 : -9223372036854775808 ≤ a) (h1 : a ≤ 9223372036854775807) : zz a < 2 ^ 64 := by unfold zz; split <;> omega
theorem rSigned_uv {a : Int} (h0 : -9223372036854775808 ≤ a) (h1 : a ≤ 9223372036854775807) (r : List UInt8) : rSigned (0, uv (zz a) ++ r) = (a, 0, r) := by
  unfold rSigned; rw [rNum_uv _ (zz_lt a h0 h1)]; simp [unzz_zz]
theorem rText_enc {s : List UInt8} (h : s.length ≤ 1048576) (r : List UInt8) : rText (0, encS s ++ r) = (s, 0, r) := by
  unfold rText encS
  rw [List.append_assoc, rCount_uv h (by omega)]
  simp
theorem rText_inv {b b' s : List UInt8} (h : rText (0, b) = (s, 0, b')) : b = encS s ++ b' ∧ s.length ≤ 1048576 := by
  unfold rText at h
  generalize hc : rCount 1048576 (0, b) = c at *
  obtain ⟨n, e, b1⟩ := c
  simp only at h
  split at h
  · rename_i he
    simp only [Prod.mk.injEq] at h
    exact absurd h.2.1 he
  · rename_i he
    have he : e = 0 := by simpa using he
    subst he
    split at h
    · simp at h
    · rename_i hl
      simp only [Prod.mk.injEq, true_and] at h
      obtain ⟨rfl, rfl⟩ := h
      obtain ⟨hb, hn, _⟩ := rCount_inv hc
      have hlen : (b1.take n).length = n := by rw [List.length_take]; omega
      unfold encS
      rw [hlen, List.append_assoc, List.take_append_drop]
      exact ⟨hb, by omega⟩
theorem rText_stuck {r : Rd} (h : r.1 ≠ 0) : (rText r).2.1 ≠ 0 := by
  unfold rText; rw [rCount_stuck h]; simp [h]
theorem rOp_enc {n : Nat} (h1 : 1 ≤ n) (h2 : n ≤ 26) (r : List UInt8) : rOp (0, b8 n :: r) = (n, 0, r) := by
  simp [rOp, b8_toNat (show n < 256 by omega)]; omega
theorem rOp_inv {b b' : List UInt8} {n : Nat} (h : rOp (0, b) = (n, 0, b')) : b = b8 n :: b' ∧ 1 ≤ n ∧ n ≤ 26 := by
  unfold rOp at h
  cases b with
  | nil => simp at h
  | cons c b =>
    simp only [ne_eq, not_true_eq_false, if_false, Prod.mk.injEq] at h
    obtain ⟨rfl, h2, rfl⟩ := h
    split at h2
    · simp at h2
    · rw [b8_of]; exact ⟨rfl, by omega, by omega⟩

/-- A count's step: the error's number stays, once it is there. -/
theorem rCount_back {m : Nat} {r : Rd} (h : (rCount m r).2.1 = 0) : r.1 = 0 := by
  rcases Nat.eq_zero_or_pos r.1 with h0 | h0
  · exact h0
  · rw [rCount_stuck (by omega)] at h; exact h
theorem rd_eta (r : Rd) (h : r.1 = 0) : r = (0, r.2) := by obtain ⟨a, b⟩ := r; simp at h; rw [h]
theorem out_eta {α : Type} (p : α × Rd) (h : p.2.1 = 0) : p = (p.1, 0, p.2.2) := by obtain ⟨a, b, c⟩ := p; simp at h; rw [h]
theorem rEnt_enc (at_ : Int) {f : CEnt} (hf : f.1 = at_) (ho : entOk f = true) (hl : f.2.1 ≤ 1048576) (r : List UInt8) : rEnt at_ (0, encE f ++ r) = (f, 0, r) := by
  obtain ⟨a, l, p, s, q⟩ := f
  simp [entOk] at ho
  simp only at hf hl
  subst hf
  unfold rEnt encE
  simp only [List.append_assoc]
  rw [rCount_uv (by omega) (by omega)]
  simp only
  rw [rCount_uv (by omega) (by omega)]
  simp only
  rw [rCount_uv (by omega) (by omega)]
  simp only
  rw [rCount_uv (by omega) (by omega)]
  simp; omega
theorem rEnt_inv {at_ : Int} {b b' : List UInt8} {f : CEnt} (h : rEnt at_ (0, b) = (f, 0, b')) : b = encE f ++ b' ∧ f.1 = at_ ∧ 0 ≤ f.2.1 := by
  unfold rEnt at h
  generalize h1 : rCount 1048576 (0, b) = c1 at *
  generalize h2 : rCount 1048576 c1.2 = c2 at *
  generalize h3 : rCount 1048576 c2.2 = c3 at *
  generalize h4 : rCount 1048576 c3.2 = c4 at *
  simp only [Prod.mk.injEq] at h
  obtain ⟨rfl, h⟩ := h
  have e4 : c4.2.1 = 0 := by rw [h]
  have e3 : c3.2.1 = 0 := rCount_back (m := 1048576) (by rw [h4]; exact e4)
  have e2 : c2.2.1 = 0 := rCount_back (m := 1048576) (by rw [h3]; exact e3)
  have e1 : c1.2.1 = 0 := rCount_back (m := 1048576) (by rw [h2]; exact e2)
  obtain ⟨b1, _, _⟩ := rCount_inv (h1.trans (out_eta c1 e1))
  rw [rd_eta c1.2 e1] at h2
  obtain ⟨b2, _, _⟩ := rCount_inv (h2.trans (out_eta c2 e2))
  rw [rd_eta c2.2 e2] at h3
  obtain ⟨b3, _, _⟩ := rCount_inv (h3.trans (out_eta c3 e3))
  rw [rd_eta c3.2 e3] at h4
  obtain ⟨b4, _, _⟩ := rCount_inv (h4.trans (out_eta c4 e4))
  refine ⟨?_, rfl, by simp⟩
  unfold encE
  simp only [Int.toNat_natCast]
  rw [b1, b2, b3, b4, h]
  simp
theorem rEnt_stuck {at_ : Int} {r : Rd} (h : r.1 ≠ 0) : (rEnt at_ r).2 = r := by
  unfold rEnt; simp only [rCount_stuck h]
theorem rSigned_stuck {r : Rd} (h : r.1 ≠ 0) : (rSigned r).2 = r := by unfold rSigned; rw [rNum_stuck h]
theorem rSigned_inv {b b' : List UInt8} {a : Int} (h : rSigned (0, b) = (a, 0, b')) : b = uv (zz a) ++ b' ∧ zz a < 2 ^ 64 := by
  unfold rSigned at h
  simp only [Prod.mk.injEq] at h
  obtain ⟨rfl, h⟩ := h
  have := rNum_inv (out_eta (rNum (0, b)) (by rw [h]))
  rw [h] at this
  rw [zz_unzz]; exact this
theorem rIns_enc {x : CIns} (h : insOk x = true) (h0 : -9223372036854775808 ≤ x.2.1) (h1 : x.2.1 ≤ 9223372036854775807) (r : List UInt8) : rIns (0, encI x ++ r) = (x, 0, r) := by
  obtain ⟨op, a, line⟩ := x
  simp [insOk] at h
  simp only at h0 h1
  unfold rIns encI
  rw [List.cons_append, rOp_enc (by omega) (by omega)]
  simp only [List.append_assoc]
  rw [rSigned_uv h0 h1]
  simp only
  rw [rCount_uv (by omega) (by omega)]
  simp; omega
theorem rIns_inv {b b' : List UInt8} {x : CIns} (h : rIns (0, b) = (x, 0, b')) : b = encI x ++ b' ∧ zz x.2.1 < 2 ^ 64 := by
  unfold rIns at h
  generalize h1 : rOp (0, b) = c1 at *
  generalize h2 : rSigned c1.2 = c2 at *
  generalize h3 : rCount 2147483647 c2.2 = c3 at *
  simp only [Prod.mk.injEq] at h
  obtain ⟨rfl, h⟩ := h
  have e3 : c3.2.1 = 0 := by rw [h]
  have e2 : c2.2.1 = 0 := rCount_back (m := 2147483647) (by rw [h3]; exact e3)
  have e1 : c1.2.1 = 0 := by
    rcases Nat.eq_zero_or_pos c1.2.1 with h0 | h0
    · exact h0
    · rw [← h2, rSigned_stuck (by omega)] at e2; exact e2
  obtain ⟨b1, _, _⟩ := rOp_inv (h1.trans (out_eta c1 e1))
  rw [rd_eta c1.2 e1] at h2
  obtain ⟨b2, hz⟩ := rSigned_inv (h2.trans (out_eta c2 e2))
  rw [rd_eta c2.2 e2] at h3
  obtain ⟨b3, _, _⟩ := rCount_inv (h3.trans (out_eta c3 e3))
  refine ⟨?_, hz⟩
  unfold encI
  simp only [Int.toNat_natCast]
  rw [b1, b2, b3, h]
  simp
theorem rIns_stuck {r : Rd} (h : r.1 ≠ 0) : (rIns r).2.1 ≠ 0 := by
  unfold rIns rOp; rw [if_pos h]
  simp only
  rw [rSigned_stuck h, rCount_stuck h]; exact h
end Go.Proofs.Ytcmpcbpdnaodmaa
