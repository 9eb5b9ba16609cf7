/- Layer 15 in plain lists: whole codes there and back; no beginning of a code's bytes is read. -/
import Derived.Test.YtcmpcbpdnaodmaaCodeLaws
namespace Go.Proofs.Ytcmpcbpdnaodmaa
open Go.RowKit

theorem loopS_enc : ∀ (l : List (List UInt8)) (acc : List (List UInt8)) (r : List UInt8), (∀ s ∈ l, s.length ≤ 1048576) → loopS l.length (0, l.flatMap encS ++ r) acc = (acc ++ l, 0, r) := by
  intro l
  induction l with
  | nil => intro acc r _; simp [loopS]
  | cons s l ih =>
    intro acc r h
    simp only [List.length_cons, loopS, List.flatMap_cons, List.append_assoc]
    rw [if_neg (by simp), rText_enc (h s (by simp))]
    simp only
    rw [ih _ _ fun x hx => h x (by simp [hx])]
    simp
theorem loopS_stuck : ∀ (n : Nat) (r : Rd) (acc : List (List UInt8)), r.1 ≠ 0 → (loopS n r acc).2.1 ≠ 0 := by
  intro n
  cases n with
  | zero => intro r acc h; exact h
  | succ n => intro r acc h; simp only [loopS]; rw [if_pos h]; exact h
theorem loopS_inv : ∀ (n : Nat) (b b' : List UInt8) (acc out : List (List UInt8)), loopS n (0, b) acc = (out, 0, b') → ∃ l, out = acc ++ l ∧ l.length = n ∧ b = l.flatMap encS ++ b' := by
  intro n
  induction n with
  | zero => intro b b' acc out h; simp [loopS] at h; exact ⟨[], by simp [h.1], rfl, by simp [h.2]⟩
  | succ n ih =>
    intro b b' acc out h
    simp only [loopS] at h
    rw [if_neg (by simp)] at h
    have he : (rText (0, b)).2.1 = 0 := by
      rcases Nat.eq_zero_or_pos (rText (0, b)).2.1 with h0 | h0
      · exact h0
      · have := loopS_stuck n (rText (0, b)).2 (acc ++ [(rText (0, b)).1]) (by omega)
        rw [h] at this; exact absurd rfl this
    obtain ⟨h1, _⟩ := rText_inv (out_eta (rText (0, b)) he)
    rw [rd_eta (rText (0, b)).2 he] at h
    obtain ⟨l, e1, e2, e3⟩ := ih _ _ _ _ h
    exact ⟨(rText (0, b)).1 :: l, by rw [e1]; simp, by simp [e2], h1.trans (by rw [e3]; simp)⟩
theorem loopE_enc : ∀ (l : List CEnt) (at_ : Int) (acc : List CEnt) (r : List UInt8), entsOk at_ l = true → (∀ f ∈ l, f.2.1 ≤ 1048576) → loopE l.length at_ (0, l.flatMap encE ++ r) acc = (at_ + lens l, acc ++ l, 0, r) := by
  intro l
  induction l with
  | nil => intro at_ acc r _ _; simp [loopE, lens]
  | cons f l ih =>
    intro at_ acc r h hl
    simp [entsOk] at h
    obtain ⟨⟨h1, h2⟩, h3⟩ := h
    simp only [List.length_cons, loopE, List.flatMap_cons, List.append_assoc]
    rw [if_neg (by simp), rEnt_enc at_ h1 h2 (hl f (by simp))]
    simp only
    rw [ih _ _ _ h3 fun x hx => hl x (by simp [hx])]
    simp [lens, Int.add_assoc]
theorem loopE_stuck : ∀ (n : Nat) (at_ : Int) (r : Rd) (acc : List CEnt), r.1 ≠ 0 → (loopE n at_ r acc).2.2.1 ≠ 0 := by
  intro n
  cases n with
  | zero => intro at_ r acc h; exact h
  | succ n => intro at_ r acc h; simp only [loopE]; rw [if_pos h]; exact h
theorem loopE_inv : ∀ (n : Nat) (at_ to : Int) (b b' : List UInt8) (acc out : List CEnt), loopE n at_ (0, b) acc = (to, out, 0, b') → ∃ l, out = acc ++ l ∧ l.length = n ∧ b = l.flatMap encE ++ b' ∧ to = at_ + lens l := by
  intro n
  induction n with
  | zero => intro at_ to b b' acc out h; simp [loopE] at h; exact ⟨[], by simp [h.2.1], rfl, by simp [h.2.2], by simp [lens, h.1]⟩
  | succ n ih =>
    intro at_ to b b' acc out h
    simp only [loopE] at h
    rw [if_neg (by simp)] at h
    have he : (rEnt at_ (0, b)).2.1 = 0 := by
      rcases Nat.eq_zero_or_pos (rEnt at_ (0, b)).2.1 with h0 | h0
      · exact h0
      · have := loopE_stuck n (at_ + (rEnt at_ (0, b)).1.2.1) (rEnt at_ (0, b)).2 (acc ++ [(rEnt at_ (0, b)).1]) (by omega)
        rw [h] at this; exact absurd rfl this
    obtain ⟨h1, _, _⟩ := rEnt_inv (out_eta (rEnt at_ (0, b)) he)
    rw [rd_eta (rEnt at_ (0, b)).2 he] at h
    obtain ⟨l, e1, e2, e3, e4⟩ := ih _ _ _ _ _ _ h
    exact ⟨(rEnt at_ (0, b)).1 :: l, by rw [e1]; simp, by simp [e2], h1.trans (by rw [e3]; simp), by rw [e4]; simp [lens, Int.add_assoc]⟩
theorem loopI_enc : ∀ (l : List CIns) (acc : List CIns) (r : List UInt8), (∀ x ∈ l, insOk x = true ∧ -9223372036854775808 ≤ x.2.1 ∧ x.2.1 ≤ 9223372036854775807) → loopI l.length (0, l.flatMap encI ++ r) acc = (acc ++ l, 0, r) := by
  intro l
  induction l with
  | nil => intro acc r _; simp [loopI]
  | cons s l ih =>
    intro acc r h
    simp only [List.length_cons, loopI, List.flatMap_cons, List.append_assoc]
    obtain ⟨h1, h2, h3⟩ := h s (by simp)
    rw [if_neg (by simp), rIns_enc h1 h2 h3]
    simp only
    rw [ih _ _ fun x hx => h x (by simp [hx])]
    simp
theorem loopI_stuck : ∀ (n : Nat) (r : Rd) (acc : List CIns), r.1 ≠ 0 → (loopI n r acc).2.1 ≠ 0 := by
  intro n
  cases n with
  | zero => intro r acc h; exact h
  | succ n => intro r acc h; simp only [loopI]; rw [if_pos h]; exact h
theorem loopI_inv : ∀ (n : Nat) (b b' : List UInt8) (acc out : List CIns), loopI n (0, b) acc = (out, 0, b') → ∃ l, out = acc ++ l ∧ l.length = n ∧ b = l.flatMap encI ++ b' ∧ ∀ x ∈ l, zz x.2.1 < 2 ^ 64 := by
  intro n
  induction n with
  | zero => intro b b' acc out h; simp [loopI] at h; exact ⟨[], by simp [h.1], rfl, by simp [h.2], by simp⟩
  | succ n ih =>
    intro b b' acc out h
    simp only [loopI] at h
    rw [if_neg (by simp)] at h
    have he : (rIns (0, b)).2.1 = 0 := by
      rcases Nat.eq_zero_or_pos (rIns (0, b)).2.1 with h0 | h0
      · exact h0
      · have := loopI_stuck n (rIns (0, b)).2 (acc ++ [(rIns (0, b)).1]) (by omega)
        rw [h] at this; exact absurd rfl this
    obtain ⟨h1, hz⟩ := rIns_inv (out_eta (rIns (0, b)) he)
    rw [rd_eta (rIns (0, b)).2 he] at h
    obtain ⟨l, e1, e2, e3, e4⟩ := ih _ _ _ _ h
    refine ⟨(rIns (0, b)).1 :: l, by rw [e1]; simp, by simp [e2], h1.trans (by rw [e3]; simp), ?_⟩
    intro x hx
    rcases List.mem_cons.1 hx with rfl | hx
    · exact hz
    · exact e4 x hx

/-- A's are numbers of 64 bits. -/
def wideC (c : CCode) : Prop := ∀ x ∈ c.1, -9223372036854775808 ≤ x.2.1 ∧ x.2.1 ≤ 9223372036854775807
theorem bytes_mem : ∀ (l : List (List UInt8)) (s : List UInt8), s ∈ l → s.length ≤ bytesOf l := by
  intro l
  induction l with
  | nil => intro s h; cases h
  | cons x l ih =>
    intro s h
    simp only [bytesOf]
    rcases List.mem_cons.1 h with rfl | h
    · omega
    · have := ih s h; omega
theorem lens_nonneg : ∀ (l : List CEnt) (at_ : Int), entsOk at_ l = true → 0 ≤ lens l := by
  intro l
  induction l with
  | nil => intro _ _; simp [lens]
  | cons f l ih =>
    intro at_ h
    simp [entsOk] at h
    have := ih _ h.2
    have := h.1.2
    simp [entOk] at this
    simp only [lens]; omega
theorem lens_mem : ∀ (l : List CEnt) (at_ : Int), entsOk at_ l = true → ∀ f ∈ l, f.2.1 ≤ lens l := by
  intro l
  induction l with
  | nil => intro _ _ f h; cases h
  | cons x l ih =>
    intro at_ h f hf
    have h0 := lens_nonneg (x :: l) at_ h
    simp [entsOk] at h
    have h1 := lens_nonneg l _ h.2
    have h2 := h.1.2
    simp [entOk] at h2
    simp only [lens] at h0 ⊢
    rcases List.mem_cons.1 hf with rfl | hf
    · omega
    · have := ih _ h.2 f hf; omega
theorem rawD_enc {c : CCode} (hm : mayC c = true) (hw : wideC c) (y : List UInt8) : rawD (encC c ++ y) = (c, 0, y) := by
  obtain ⟨ins, fns, strs⟩ := c
  simp only [mayC, Bool.and_eq_true, decide_eq_true_eq] at hm
  obtain ⟨⟨⟨⟨⟨⟨m1, m2⟩, m3⟩, m4⟩, m5⟩, m6⟩, m7⟩ := hm
  have hs : ∀ s ∈ strs, s.length ≤ 1048576 := fun s hs => Nat.le_trans (bytes_mem strs s hs) m7
  have hf : ∀ f ∈ fns, f.2.1 ≤ 1048576 := fun f hf => by have := lens_mem fns 0 m4 f hf; omega
  unfold rawD encC
  simp only [List.append_assoc]
  rw [rCount_uv (show strs.length ≤ 1048576 by omega) (by omega)]
  simp only
  rw [loopS_enc strs [] _ hs]
  simp only
  rw [rCount_uv (show fns.length ≤ 1048576 by omega) (by omega)]
  simp only
  rw [loopE_enc fns 0 [] _ m4 hf]
  simp only [Int.zero_add, m5, Int.toNat_natCast]
  rw [loopI_enc ins [] _ fun x hx => ⟨List.all_eq_true.1 m6 x hx, hw x hx⟩]
  simp
theorem rawD_inv {b y : List UInt8} {c : CCode} (h : rawD b = (c, 0, y)) : b = encC c ++ y ∧ wideC c := by
  obtain ⟨ins, fns, strs⟩ := c
  unfold rawD at h
  dsimp only at h
  generalize h1 : rCount 1048576 (0, b) = c1 at *
  generalize h2 : loopS c1.1 c1.2 [] = c2 at *
  generalize h3 : rCount 1048576 c2.2 = c3 at *
  generalize h4 : loopE c3.1 0 c3.2 [] = c4 at *
  generalize h5 : loopI c4.1.toNat c4.2.2 [] = c5 at *
  simp only [Prod.mk.injEq] at h
  obtain ⟨⟨rfl, rfl, rfl⟩, h⟩ := h
  have e5 : c5.2.1 = 0 := by rw [h]
  have e4 : c4.2.2.1 = 0 := by
    rcases Nat.eq_zero_or_pos c4.2.2.1 with h0 | h0
    · exact h0
    · exact absurd e5 (by rw [← h5]; exact loopI_stuck _ _ _ (by omega))
  have e3 : c3.2.1 = 0 := by
    rcases Nat.eq_zero_or_pos c3.2.1 with h0 | h0
    · exact h0
    · exact absurd e4 (by rw [← h4]; exact loopE_stuck _ _ _ _ (by omega))
  have e2 : c2.2.1 = 0 := rCount_back (m := 1048576) (by rw [h3]; exact e3)
  have e1 : c1.2.1 = 0 := by
    rcases Nat.eq_zero_or_pos c1.2.1 with h0 | h0
    · exact h0
    · exact absurd e2 (by rw [← h2]; exact loopS_stuck _ _ _ (by omega))
  obtain ⟨b1, _, _⟩ := rCount_inv (h1.trans (out_eta c1 e1))
  rw [rd_eta c1.2 e1] at h2
  obtain ⟨l2, o2, n2, b2⟩ := loopS_inv _ _ _ _ _ (h2.trans (out_eta c2 e2))
  rw [rd_eta c2.2 e2] at h3
  obtain ⟨b3, _, _⟩ := rCount_inv (h3.trans (out_eta c3 e3))
  rw [rd_eta c3.2 e3] at h4
  obtain ⟨l4, o4, n4, b4, t4⟩ := loopE_inv _ _ _ _ _ _ _ (h4.trans (show c4 = (c4.1, c4.2.1, 0, c4.2.2.2) by rw [← e4]))
  rw [rd_eta c4.2.2 e4] at h5
  obtain ⟨l5, o5, n5, b5, z5⟩ := loopI_inv _ _ _ _ _ (h5.trans (out_eta c5 e5))
  rw [List.nil_append] at o2 o4 o5
  constructor
  · unfold encC
    rw [b1, b2, b3, b4, b5, h, o2, o4, o5, n2, n4]
    simp
  · intro x hx
    rw [o5] at hx
    have := z5 x hx
    unfold zz at this
    split at this <;> omega
/-- There and back. -/
theorem decC_enc {c : CCode} (hm : mayC c = true) (hw : wideC c) : decC (encC c) = (c, 0) := by
  have := rawD_enc hm hw []
  rw [List.append_nil] at this
  unfold decC; rw [this]; simp [hm]
theorem decC_inv {b : List UInt8} {c : CCode} (h : decC b = (c, 0)) : b = encC c ∧ wideC c ∧ mayC c = true := by
  unfold decC at h
  split at h
  · rename_i h0; simp only [Prod.mk.injEq] at h; exact absurd h.2 h0
  split at h
  · simp at h
  split at h
  · rename_i h0 h1 h2
    simp only [Prod.mk.injEq, and_true] at h
    subst h
    have hz : (rawD b).2.1 = 0 := by simpa using h0
    have hl : (rawD b).2.2 = [] := List.eq_nil_of_length_eq_zero (by omega)
    have := rawD_inv (out_eta (rawD b) hz)
    rw [hl, List.append_nil] at this
    exact ⟨this.1, this.2, h2⟩
  · simp at h
/-- Of no beginning of a code's bytes but all of them one is read. -/
theorem decC_cut {c : CCode} (hm : mayC c = true) (hw : wideC c) (k : Nat) (hk : k < (encC c).length) : (decC ((encC c).take k)).2 ≠ 0 := by
  intro h
  generalize hd : decC ((encC c).take k) = d at *
  obtain ⟨c', e⟩ := d
  simp only at h
  subst h
  obtain ⟨h1, h2, h3⟩ := decC_inv hd
  have h4 := rawD_enc h3 h2 ((encC c).drop k)
  rw [← h1, List.take_append_drop] at h4
  have h5 := rawD_enc hm hw []
  rw [List.append_nil, h4] at h5
  simp only [Prod.mk.injEq, true_and] at h5
  have : ((encC c).drop k).length = 0 := by rw [h5.2]; rfl
  rw [List.length_drop] at this
  omega
end Go.Proofs.Ytcmpcbpdnaodmaa
