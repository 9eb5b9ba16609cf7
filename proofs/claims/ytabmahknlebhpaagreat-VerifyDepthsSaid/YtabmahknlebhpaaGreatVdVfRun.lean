/- Parts of the proof. -/
import Derived.Test.YtabmahknlebhpaaGreatVdVfHeap
import Derived.Test.YtabmahknlebhpaaGreatVdVfRight
import Derived.Test.YtabmahknlebhpaaGreatVdVfMay2
namespace Go.Proofs.YtabmahknlebhpaaGreat
set_option linter.unusedVariables false
structure Rel (k : Nat) (A : GVerifyFlow) (F : GR17F) : Prop where
  e : A.f_ = F.E
  d : A.depths_ = F.D
  len : (F.D.length : Int) = F.E.Len
  gone : F.Gone.length = F.D.length
  err : F.Error = 0
  small : F.D.length ≤ 65536
  heap : HeapN A.todo_ A.todo_.length
  nodup : A.todo_.Nodup
  todo : ∀ y : Int, y ∈ A.todo_ ↔ ∃ i : Nat, y = i ∧ ∃ h : i < F.D.length, 0 ≤ F.D[i] ∧ F.Gone.getD i true = false
  depth : ∀ x ∈ F.D, x ≤ k
  seen : ∀ (i : Nat) (h : i < F.D.length), F.Gone.getD i true = true → 0 ≤ F.D[i]
theorem nodup_len : ∀ {n : Nat} {l : List Int}, l.Nodup → (∀ y ∈ l, ∃ i : Nat, y = i ∧ i < n) → l.length ≤ n
  | 0, l, _, hm => by
    cases l with
    | nil => exact Nat.le_refl _
    | cons y l => obtain ⟨i, _, hi⟩ := hm y List.mem_cons_self; omega
  | n + 1, l, h, hm => by
    have h1 := nodup_len (n := n) (l := l.erase (n : Int)) (h.erase _) fun y hy => by
      have hy' := (h.mem_erase_iff).1 hy
      obtain ⟨i, rfl, hi⟩ := hm y hy'.2
      exact ⟨i, rfl, by have := hy'.1; omega⟩
    rw [List.length_erase] at h1
    split at h1 <;> omega
theorem Rel.small' {k : Nat} {A : GVerifyFlow} {F : GR17F} (h : Rel k A F) : A.todo_.length ≤ 65536 :=
  Nat.le_trans (nodup_len h.nodup fun y hy => by obtain ⟨i, e, hi, _⟩ := (h.todo y).1 hy; exact ⟨i, e, hi⟩) h.small
theorem reach_rel {k : Nat} {A : GVerifyFlow} {F : GR17F} (h : Rel k A F) (p dp : Nat) (hd : dp ≤ k) :
    (∃ e : Int, e ≠ 0 ∧ f_verify_flow_reach A (p : Int) (dp : Int) = some ((e, ()), (A, ())) ∧ f_r17_F_reach_o1 F (p : Int) (dp : Int) = some ((⟨F.E, F.D, F.Gone, e⟩, ()), ())) ∨
    ∃ A' F', f_verify_flow_reach A (p : Int) (dp : Int) = some ((0, ()), (A', ())) ∧ f_r17_F_reach_o1 F (p : Int) (dp : Int) = some ((F', ()), ()) ∧ Rel k A' F' ∧ F'.Gone = F.Gone ∧ F'.E = F.E ∧ F'.D.length = F.D.length := by
  obtain ⟨Af, AD, At⟩ := A
  obtain ⟨FE, FD, FG, Fe⟩ := F
  obtain ⟨he, hdd, hlen, hgone, herr, hsm, hheap, hnod, htodo, hdep, hseen⟩ := id h
  simp only at he hdd hlen hgone herr hsm hheap hnod htodo hdep hseen
  subst he hdd herr
  rw [f_verify_flow_reach_eq, f_r17_F_reach_o1_eq]
  simp only [decide_true, Bool.not_true, cond_false]
  by_cases c1 : (p : Int) ≥ Af.Len
  · rw [decide_eq_true c1]
    exact .inl ⟨17, by decide, rfl, rfl⟩
  · have hp : p < AD.length := by omega
    rw [decide_eq_false c1, getI_nat' hp, Int.toNat_natCast, List.getElem?_eq_getElem hp]
    simp only [cond_false, Option.bind_some]
    by_cases c2 : AD[p] < 0
    · rw [decide_eq_true c2, decide_eq_false (by omega : ¬ AD[p] ≥ 0)]
      simp only [cond_false, cond_true, Option.bind_some, setN]
      rw [f_r17_F_reach_o1_j0_eq]
      simp only
      rw [getI_nat' hp, Int.toNat_natCast, List.getElem?_eq_getElem hp]
      simp only [Option.bind_some, setN]
      have hng : FG.getD p true = false := by
        cases hg : FG.getD p true with
        | false => rfl
        | true => have := hseen p hp hg; omega
      have hpn : (p : Int) ∉ At := fun hm => by
        obtain ⟨i, e, hi, h0, _⟩ := (htodo p).1 hm
        have : i = p := by omega
        subst this
        omega
      obtain ⟨w', h1, h2, h3⟩ := push_at ⟨Af, AD.set p dp, At⟩ (p : Int) hheap (by have := h.small'; simp only at this ⊢; omega)
      rw [h1]
      refine .inr ⟨⟨Af, AD.set p dp, w'⟩, ⟨Af, AD.set p dp, FG, 0⟩, rfl, rfl, ⟨rfl, rfl, by simpa using hlen, by simpa using hgone, rfl, by simpa using hsm, h3, ?_, fun y => ?_, fun x hx => ?_, fun i hi hg => ?_⟩, rfl, rfl, by simp⟩
      · exact h2.nodup_iff.2 (List.nodup_cons.2 ⟨hpn, hnod⟩)
      · simp only
        rw [h2.mem_iff, List.mem_cons, htodo]
        simp only [List.length_set, List.getElem_set]
        constructor
        · rintro (rfl | ⟨i, rfl, hi, g1, g2⟩)
          · exact ⟨p, rfl, hp, by simp, hng⟩
          · exact ⟨i, rfl, hi, by split <;> omega, g2⟩
        · rintro ⟨i, rfl, hi, g1, g2⟩
          by_cases e : p = i
          · subst e; exact .inl rfl
          · rw [if_neg e] at g1; exact .inr ⟨i, rfl, hi, g1, g2⟩
      · rcases List.mem_or_eq_of_mem_set hx with hx | rfl
        · exact hdep x hx
        · omega
      · simp only [List.length_set] at hi
        simp only [List.getElem_set]
        split
        · omega
        · exact hseen i hi hg
    · rw [decide_eq_false c2, decide_eq_true (by omega : AD[p] ≥ 0)]
      simp only [cond_false, cond_true]
      by_cases c3 : AD[p] = (dp : Int)
      · rw [decide_eq_true c3]
        simp only [Bool.not_true, cond_false]
        rw [f_r17_F_reach_o1_j0_eq]
        simp only
        rw [getI_nat' hp, Int.toNat_natCast, List.getElem?_eq_getElem hp]
        have e1 : AD.set p (dp : Int) = AD := by rw [← c3]; simp
        simp only [Option.bind_some, setN, e1]
        exact .inr ⟨_, _, rfl, rfl, h, rfl, rfl, rfl⟩
      · rw [decide_eq_false c3]
        exact .inl ⟨18, by decide, rfl, rfl⟩
theorem next_at (F : GR17F) (hg : F.Gone.length = F.D.length) (hs : F.D.length ≤ 65536) : ∀ (m i : Nat), F.D.length - i = m →
    (f_r17_F_next_l0 F (i : Int) = some ((-1, ()), ()) ∧ ∀ (j : Nat) (h : j < F.D.length), i ≤ j → ¬ (0 ≤ F.D[j] ∧ F.Gone.getD j true = false)) ∨
    ∃ (j : Nat) (h : j < F.D.length), i ≤ j ∧ f_r17_F_next_l0 F (i : Int) = some (((j : Int), ()), ()) ∧ (0 ≤ F.D[j] ∧ F.Gone.getD j true = false) ∧ ∀ (q : Nat) (hq : q < F.D.length), i ≤ q → q < j → ¬ (0 ≤ F.D[q] ∧ F.Gone.getD q true = false) := by
  intro m
  induction m with
  | zero =>
    intro i hm
    rw [f_r17_F_next_l0_eq, decide_eq_false (by omega), f_r17_F_next_j1_eq]
    exact .inl ⟨rfl, fun j h h1 => by omega⟩
  | succ m ih =>
    intro i hm
    have hi : i < F.D.length := by omega
    have e1 : w64 ((i : Int) + 1) = ((i + 1 : Nat) : Int) := by rw [wrap64 (by omega) (by omega)]; omega
    have hgd : F.Gone.getD i true = F.Gone[i]'(by omega) := by simp [List.getD_eq_getElem?_getD, hg, hi]
    rw [f_r17_F_next_l0_eq, decide_eq_true (by omega), getI_nat' hi, getI_nat' (by omega : i < F.Gone.length), e1]
    simp only [cond_true, Option.bind_some]
    have rest : ¬ (0 ≤ F.D[i] ∧ F.Gone.getD i true = false) → (f_r17_F_next_l0 F ((i + 1 : Nat) : Int) = some ((-1, ()), ()) ∧ ∀ (j : Nat) (h : j < F.D.length), i ≤ j → ¬ (0 ≤ F.D[j] ∧ F.Gone.getD j true = false)) ∨
        ∃ (j : Nat) (h : j < F.D.length), i ≤ j ∧ f_r17_F_next_l0 F ((i + 1 : Nat) : Int) = some (((j : Int), ()), ()) ∧ (0 ≤ F.D[j] ∧ F.Gone.getD j true = false) ∧ ∀ (q : Nat) (hq : q < F.D.length), i ≤ q → q < j → ¬ (0 ≤ F.D[q] ∧ F.Gone.getD q true = false) := fun hn => by
      rcases ih (i + 1) (by omega) with ⟨g1, g2⟩ | ⟨j, h, g1, g2, g3, g4⟩
      · refine .inl ⟨g1, fun j h h1 => ?_⟩
        by_cases e : i = j
        · subst e; exact hn
        · exact g2 j h (by omega)
      · refine .inr ⟨j, h, by omega, g2, g3, fun q hq h1 h2 => ?_⟩
        by_cases e : i = q
        · subst e; exact hn
        · exact g4 q hq (by omega) h2
    by_cases c1 : 0 ≤ F.D[i]
    · rw [decide_eq_true (by omega : F.D[i] ≥ 0)]
      simp only [cond_true]
      cases hz : F.Gone[i]'(by omega) with
      | false => exact .inr ⟨i, hi, Nat.le_refl _, rfl, ⟨c1, by rw [hgd, hz]⟩, fun q hq h1 h2 => by omega⟩
      | true => exact rest fun h => by rw [hgd, hz] at h; exact absurd h.2 (by decide)
    · rw [decide_eq_false (by omega : ¬ F.D[i] ≥ 0)]
      exact rest fun h => c1 h.1
theorem pop_rel {k : Nat} {A : GVerifyFlow} {F : GR17F} (h : Rel k A F) :
    (A.todo_ = [] ∧ f_r17_F_next F = some ((-1, ()), ())) ∨
    ∃ (i : Nat) (hi : i < F.D.length) (w' : List Int), 0 < A.todo_.length ∧ f_container_heap_Pop A = some (((i : Int), ()), (⟨A.f_, A.depths_, w'⟩, ())) ∧ f_r17_F_next F = some (((i : Int), ()), ()) ∧ 0 ≤ F.D[i] ∧ F.Gone.getD i true = false ∧ Rel k ⟨A.f_, A.depths_, w'⟩ ⟨F.E, F.D, F.Gone.set i true, F.Error⟩ := by
  rw [f_r17_F_next_eq]
  rcases next_at F h.gone h.small _ 0 rfl with ⟨g1, g2⟩ | ⟨j, hj, _, g2, g3, g4⟩
  · refine .inl ⟨?_, g1⟩
    cases ht : A.todo_ with
    | nil => rfl
    | cons y l =>
      obtain ⟨i, rfl, hi, q1, q2⟩ := (h.todo y).1 (by rw [ht]; exact List.mem_cons_self)
      exact absurd ⟨q1, q2⟩ (g2 i hi (Nat.zero_le _))
  · have hm : (j : Int) ∈ A.todo_ := (h.todo j).2 ⟨j, rfl, hj, g3.1, g3.2⟩
    have hpos : 0 < A.todo_.length := List.length_pos_of_mem hm
    obtain ⟨x, w', p1, p2, p3, p4⟩ := pop_at A h.heap hpos (by have := h.small'; omega)
    have hx : x = (j : Int) := by
      have hxm : x ∈ A.todo_ := p2.subset List.mem_cons_self
      obtain ⟨i, rfl, hi, q1, q2⟩ := (h.todo x).1 hxm
      have h1 : ¬ i < j := fun hlt => g4 i hi (Nat.zero_le _) hlt ⟨q1, q2⟩
      have h2 : ¬ j < i := fun hlt => by
        have : (j : Int) ∈ (i : Int) :: w' := p2.symm.subset hm
        rcases List.mem_cons.1 this with e | hw
        · omega
        · have := p4 _ hw; omega
      omega
    subst hx
    have hnd : ((j : Int) :: w').Nodup := p2.symm.nodup_iff.1 h.nodup
    have hgj : j < F.Gone.length := by rw [h.gone]; exact hj
    refine .inr ⟨j, hj, w', hpos, p1, g2, g3.1, g3.2, ⟨h.e, h.d, h.len, by simpa using h.gone, h.err, h.small, p3, (List.nodup_cons.1 hnd).2, fun y => ?_, h.depth, fun i hi hg => ?_⟩⟩
    · constructor
      · intro hy
        obtain ⟨i, rfl, hi, q1, q2⟩ := (h.todo y).1 (p2.subset (List.mem_cons_of_mem _ hy))
        have hne : i ≠ j := fun e => (List.nodup_cons.1 hnd).1 (by rw [← e]; exact hy)
        exact ⟨i, rfl, hi, q1, by simpa [List.getD_eq_getElem?_getD, List.getElem?_set, Ne.symm hne] using q2⟩
      · rintro ⟨i, rfl, hi, q1, q2⟩
        have hne : i ≠ j := fun e => by
          subst e
          simp [List.getD_eq_getElem?_getD, hgj] at q2
        have : (i : Int) ∈ (j : Int) :: w' := p2.symm.subset ((h.todo i).2 ⟨i, rfl, hi, q1, by simpa [List.getD_eq_getElem?_getD, List.getElem?_set, Ne.symm hne] using q2⟩)
        rcases List.mem_cons.1 this with e | hw
        · omega
        · exact hw
    · by_cases e : i = j
      · subst e; exact g3.1
      · exact h.seen i hi (by simpa [List.getD_eq_getElem?_getD, List.getElem?_set, Ne.symm e] using hg)
end Go.Proofs.YtabmahknlebhpaaGreat
