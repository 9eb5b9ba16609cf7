/- Parts of the proof. -/
import Derived.Test.YtmffhifkdbfbfaaEqOpBin
namespace Go.Proofs.Ytmffhifkdbfbfaa
open Go.RowKit
set_option linter.unusedVariables false
set_option maxHeartbeats 2000000
theorem loaded_spec (room : Int) (l : List GApiObj) (hl : l.length ≤ 140737488351232) (ho : ∀ o ∈ l, bigO o) : ∃ r, hindcastlaw13_loaded room l = some r ∧ ((r.1 = none ∧ r.2.2 = false) ∨ ∃ H, HInv H ∧ r = (some H, wr H, true)) := by
  obtain ⟨m0, hm0⟩ := load_total room l hl ho
  unfold hindcastlaw13_loaded
  rw [hm0, obind_some]
  by_cases c : m0.2 = 0
  · rw [if_pos c]
    obtain ⟨b, hb, hf⟩ := greatO l hl ho
    rw [hb, obind_some]
    cases b with
    | true => exact ⟨_, rfl, .inl ⟨rfl, rfl⟩⟩
    | false =>
      obtain ⟨f1, f2⟩ := hf rfl
      obtain ⟨x1, m, x2, x3⟩ := load_same room l (by omega) (fun o h => ⟨by have := (f2 o h).1; omega, by have := (f2 o h).2; omega⟩)
      rw [if_neg (by decide), x1, obind_some]
      rw [hm0] at x2
      have e := Option.some.inj x2
      rcases x3 with ⟨H, y1, y2, y3, y4, _⟩ | ⟨y1, y2, _⟩
      · rw [y1]
        refine ⟨_, rfl, .inr ⟨H, y4, ?_⟩⟩
        rw [e, y3]; rfl
      · exact absurd (by rw [e] at c; exact c) y2
  · rw [if_neg c]; exact ⟨_, rfl, .inl ⟨rfl, rfl⟩⟩
theorem eqv_symm (H : GHeapHeap) (a b : GApiValue) : eqv H a b = eqv H b a := by
  unfold eqv
  by_cases r : (5 ≤ a.Kind ∧ a.Kind ≤ 7) ∧ 5 ≤ b.Kind ∧ b.Kind ≤ 7
  · have r2 : (5 ≤ b.Kind ∧ b.Kind ≤ 7) ∧ 5 ≤ a.Kind ∧ a.Kind ≤ 7 := ⟨r.2, r.1⟩
    rw [if_pos r, if_pos r2]
    refine Prod.ext rfl ?_
    simp only
    rw [Bool.eq_iff_iff]
    simp only [Bool.and_eq_true, Bool.or_eq_true, decide_eq_true_eq]
    constructor
    · rintro ⟨e, h⟩; exact ⟨e.symm, h.imp (fun x => e ▸ x) Eq.symm⟩
    · rintro ⟨e, h⟩; exact ⟨e.symm, h.imp (fun x => e ▸ x) Eq.symm⟩
  · have r2 : ¬ ((5 ≤ b.Kind ∧ b.Kind ≤ 7) ∧ 5 ≤ a.Kind ∧ a.Kind ≤ 7) := fun h => r ⟨h.2, h.1⟩
    rw [if_neg r, if_neg r2]
    by_cases ck : a.Kind = b.Kind
    · rw [ck]
      simp only [ne_eq, not_true_eq_false, if_false]
      by_cases c1 : b.Kind = 1
      · simp only [c1, if_true]; exact Prod.ext rfl (decide_eq_decide.2 ⟨Eq.symm, Eq.symm⟩)
      by_cases c2 : b.Kind = 2
      · simp only [c2, if_true, show ¬ (2 : Int) = 1 by decide, if_false]
        cases decide (a.N = 0) <;> cases decide (b.N = 0) <;> rfl
      by_cases c3 : b.Kind = 3
      · simp only [c3, if_true, show ¬ (3 : Int) = 1 by decide, show ¬ (3 : Int) = 2 by decide, if_false]
        rw [Bool.and_comm, show decide ((H.text 3 a.N).1 = (H.text 3 b.N).1) = decide ((H.text 3 b.N).1 = (H.text 3 a.N).1) from decide_eq_decide.2 ⟨Eq.symm, Eq.symm⟩]
      by_cases c4 : b.Kind = 4
      · simp only [c4, if_true, show ¬ (4 : Int) = 1 by decide, show ¬ (4 : Int) = 2 by decide, show ¬ (4 : Int) = 3 by decide, if_false]
        rw [show decide (sx a.Re 24 = sx b.Re 24) = decide (sx b.Re 24 = sx a.Re 24) from decide_eq_decide.2 ⟨Eq.symm, Eq.symm⟩, show decide (sx a.Im 24 = sx b.Im 24) = decide (sx b.Im 24 = sx a.Im 24) from decide_eq_decide.2 ⟨Eq.symm, Eq.symm⟩]
      simp only [c1, c2, c3, c4, if_false]
    · have ck2 : b.Kind ≠ a.Kind := fun e => ck e.symm
      rw [if_pos ck, if_pos ck2]
theorem eqv_refl (H : GHeapHeap) (a : GApiValue) : (eqv H a a).1 = true → (eqv H a a).2 = true := by
  unfold eqv
  by_cases r : (5 ≤ a.Kind ∧ a.Kind ≤ 7) ∧ 5 ≤ a.Kind ∧ a.Kind ≤ 7
  · rw [if_pos r]; simp
  rw [if_neg r]
  simp only [ne_eq, not_true_eq_false, if_false]
  split
  · simp
  split
  · simp
  split
  · intro h; simp only at h ⊢; rw [h]; simp
  split
  · simp
  · simp
theorem eqv_trans (H : GHeapHeap) (a b c : GApiValue) (h1 : (eqv H a b).1 = true) (h2 : (eqv H b c).1 = true) (e1 : (eqv H a b).2 = true) (e2 : (eqv H b c).2 = true) : (eqv H a c).1 = true ∧ (eqv H a c).2 = true := by
  unfold eqv at *
  by_cases ra : 5 ≤ a.Kind ∧ a.Kind ≤ 7
  · by_cases rb : 5 ≤ b.Kind ∧ b.Kind ≤ 7
    · rw [if_pos (show (5 ≤ a.Kind ∧ a.Kind ≤ 7) ∧ 5 ≤ b.Kind ∧ b.Kind ≤ 7 from ⟨ra, rb⟩)] at h1 e1
      by_cases rc : 5 ≤ c.Kind ∧ c.Kind ≤ 7
      · rw [if_pos (show (5 ≤ b.Kind ∧ b.Kind ≤ 7) ∧ 5 ≤ c.Kind ∧ c.Kind ≤ 7 from ⟨rb, rc⟩)] at h2 e2
        rw [if_pos (show (5 ≤ a.Kind ∧ a.Kind ≤ 7) ∧ 5 ≤ c.Kind ∧ c.Kind ≤ 7 from ⟨ra, rc⟩)]
        simp only [Bool.and_eq_true, Bool.or_eq_true, decide_eq_true_eq] at e1 e2 ⊢
        obtain ⟨k1, n1⟩ := e1
        obtain ⟨k2, n2⟩ := e2
        refine ⟨trivial, k1.trans k2, ?_⟩
        omega
      · have nr : ¬ ((5 ≤ b.Kind ∧ b.Kind ≤ 7) ∧ 5 ≤ c.Kind ∧ c.Kind ≤ 7) := fun h => rc h.2
        have nk : b.Kind ≠ c.Kind := fun e => rc (e ▸ rb)
        rw [if_neg nr, if_pos nk] at h2; cases h2
    · have nr : ¬ ((5 ≤ a.Kind ∧ a.Kind ≤ 7) ∧ 5 ≤ b.Kind ∧ b.Kind ≤ 7) := fun h => rb h.2
      have nk : a.Kind ≠ b.Kind := fun e => rb (e ▸ ra)
      rw [if_neg nr, if_pos nk] at h1; cases h1
  · have nr : ¬ ((5 ≤ a.Kind ∧ a.Kind ≤ 7) ∧ 5 ≤ b.Kind ∧ b.Kind ≤ 7) := fun h => ra h.1
    rw [if_neg nr] at h1 e1
    by_cases nk : a.Kind = b.Kind
    · have nrb : ¬ ((5 ≤ b.Kind ∧ b.Kind ≤ 7) ∧ 5 ≤ c.Kind ∧ c.Kind ≤ 7) := fun h => ra (nk ▸ h.1)
      rw [if_neg nrb] at h2 e2
      by_cases nk2 : b.Kind = c.Kind
      · have nrc : ¬ ((5 ≤ a.Kind ∧ a.Kind ≤ 7) ∧ 5 ≤ c.Kind ∧ c.Kind ≤ 7) := fun h => ra h.1
        rw [if_neg nrc]
        have ka : a.Kind = c.Kind := nk.trans nk2
        simp only [ka, nk2, ne_eq, not_true_eq_false, if_false] at h1 h2 e1 e2 ⊢
        by_cases c1 : c.Kind = 1
        · simp only [c1, if_true, decide_eq_true_eq] at h1 h2 e1 e2 ⊢; exact ⟨trivial, e1.trans e2⟩
        by_cases c2 : c.Kind = 2
        · simp only [c2, if_true, show ¬ (2 : Int) = 1 by decide, if_false, beq_iff_eq] at h1 h2 e1 e2 ⊢; exact ⟨trivial, e1.trans e2⟩
        by_cases c3 : c.Kind = 3
        · simp only [c3, if_true, show ¬ (3 : Int) = 1 by decide, show ¬ (3 : Int) = 2 by decide, if_false, Bool.and_eq_true, decide_eq_true_eq] at h1 h2 e1 e2 ⊢
          exact ⟨⟨h1.1, h2.2⟩, ⟨h1.1, h2.2⟩, e1.2.trans e2.2⟩
        by_cases c4 : c.Kind = 4
        · simp only [c4, if_true, show ¬ (4 : Int) = 1 by decide, show ¬ (4 : Int) = 2 by decide, show ¬ (4 : Int) = 3 by decide, if_false, Bool.and_eq_true, decide_eq_true_eq] at h1 h2 e1 e2 ⊢
          exact ⟨trivial, e1.1.trans e2.1, e1.2.trans e2.2⟩
        · simp only [c1, c2, c3, c4, if_false] at h1; cases h1
      · rw [if_pos nk2] at h2; cases h2
    · rw [if_pos nk] at h1; cases h1
def eqR (H : GHeapHeap) (a b : GApiValue) (q : Bool) : GApiValue × Int × Bool × GHeapHeap := if (eqv H a b).1 = true then (truthV ((eqv H a b).2 == q), 0, true, H) else (Z4, 0, false, H)
theorem operEqual_all (l : List GApiObj) (a b c : GApiValue) (h1 : l.length ≤ 140737488351232 ∧ ∀ x ∈ l, ok_GApiObj x) (ha : ok_GApiValue a) (hb : ok_GApiValue b) (hc : ok_GApiValue c) : hindcastlaw13_OperEqual l a b c = some true := by
  have hj : hindcastlaw13_OperEqual_j0 = some true := by unfold hindcastlaw13_OperEqual_j0; rw [awake13]; rfl
  obtain ⟨r, hr, hcc⟩ := loaded_spec 65536 l h1.1 fun o ho => obj_big (h1.2 o ho)
  unfold hindcastlaw13_OperEqual
  rw [hr, obind_some]
  rcases hcc with ⟨e1, e2⟩ | ⟨H, hH, rfl⟩
  · rw [e1, e2, hj]; rfl
  · simp only [optCase, if_true]
    have ia := okI_i64 ha.2.1
    have ib := okI_i64 hb.2.1
    have ic := okI_i64 hc.2.1
    have E : ∀ x y : GApiValue, in64 x.N → in64 y.N → oper_Bin H 6 x y = some (eqR H x y true) := fun x y hx hy => bin_eqop hH 6 x y (.inl rfl) hx hy
    have N : ∀ x y : GApiValue, in64 x.N → in64 y.N → oper_Bin H 7 x y = some (eqR H x y false) := fun x y hx hy => bin_eqop hH 7 x y (.inr rfl) hx hy
    have hh : ∀ x y q, (eqR H x y q).2.2.2 = H := fun x y q => by unfold eqR; split <;> rfl
    have hw : ∃ v t, hindcastref13_W_Bin (wr H) 6 a a = some (v, t, (eqv H a a).1, wr H) := by
      obtain ⟨v, t, ok, H', b1, b2, _, _⟩ := bin_spec hH 6 a a ia ia
      rw [E a a ia ia] at b1
      have e := Option.some.inj b1
      have e3 : ok = (eqv H a a).1 := by
        have := congrArg (fun x => x.2.2.1) e
        simp only [eqR] at this
        rw [← this]; split <;> simp_all
      have e4 : H' = H := by have := congrArg (fun x => x.2.2.2) e; simp only [hh] at this; exact this.symm
      exact ⟨v, t, by rw [b2, e3, e4]⟩
    obtain ⟨v0, t0, hw⟩ := hw
    rw [E a b ia ib, obind_some, hh, E b a ib ia, obind_some, hh, E b c ib ic, obind_some, hh, E a c ia ic, obind_some, hh, N a b ia ib, obind_some, hh, E a a ia ia, obind_some, hw, obind_some]
    unfold hindcastlaw13_OperEqual_j1
    rw [awake13]
    have s1 := eqv_symm H a b
    have r1 := eqv_refl H a
    have t1 := eqv_trans H a b c
    unfold eqR
    rw [← s1]
    clear s1
    generalize eqv H a b = p at *
    generalize eqv H b c = q at *
    generalize eqv H a c = u at *
    generalize eqv H a a = s at *
    obtain ⟨p1, p2⟩ := p
    obtain ⟨q1, q2⟩ := q
    obtain ⟨u1, u2⟩ := u
    obtain ⟨s1, s2⟩ := s
    simp only at *
    have w1 : w64 (1 + 0) = 1 := by decide
    have w2 : w64 (0 + 1) = 1 := by decide
    cases p1 <;> cases p2 <;> cases q1 <;> cases q2 <;> cases u1 <;> cases u2 <;> cases s1 <;> cases s2 <;> simp_all [truthV, Z4]
end Go.Proofs.Ytmffhifkdbfbfaa
