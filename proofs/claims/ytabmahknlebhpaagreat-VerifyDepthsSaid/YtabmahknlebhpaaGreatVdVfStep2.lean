/- Parts of the proof. -/
import Derived.Test.YtabmahknlebhpaaGreatVdVfStep
namespace Go.Proofs.YtabmahknlebhpaaGreat
set_option linter.unusedVariables false
structure FnR (c : GApiCode) (E : GApiEntry) : Prop where
  at0 : 0 ≤ E.At
  len0 : 0 ≤ E.Len
  fit : E.At + E.Len ≤ c.Ins.length
  big : c.Ins.length ≤ 65536
  fns : ∀ f ∈ c.Fns, 0 ≤ f.Params ∧ (f.Result = 0 ∨ f.Result = 1)
  res : E.Result = 0 ∨ E.Result = 1
  op : ∀ x ∈ c.Ins, 1 ≤ x.Op ∧ x.Op ≤ 26
  ok : ∀ (i : Nat), (i : Int) < E.Len → ∀ x, c.Ins[E.At.toNat + i]? = some x → f_r17_wrong c E x = some ((0, ()), ())
theorem in_true {a b c : Int} {n : Int} (hn : n ≠ 0) (h : ((f_r17_in a b c).bind fun (r : RT0) => (cond (!r.1.1) (some ((n, ()), ())) ((f_r17_wrong_j3)))) = some ((0, ()), ())) : b ≤ a ∧ a < c := by
  rw [f_r17_in_eq] at h
  by_cases c1 : a ≥ b
  · rw [decide_eq_true c1] at h
    by_cases c2 : a < c
    · exact ⟨c1, c2⟩
    · rw [decide_eq_false c2] at h
      simp only [cond_true, Option.bind_some, Bool.not_false, Option.some.injEq, Prod.mk.injEq, and_true] at h
      exact absurd h hn
  · rw [decide_eq_false c1] at h
    simp only [cond_true, cond_false, Option.bind_some, Bool.not_false, Option.some.injEq, Prod.mk.injEq, and_true] at h
    exact absurd h hn
theorem wrong_call {c : GApiCode} {E : GApiEntry} {x : GApiIns} (hw : f_r17_wrong c E x = some ((0, ()), ())) (h : x.Op = 19) : 0 ≤ x.A ∧ x.A < c.Fns.length := by
  rw [f_r17_wrong_eq, h] at hw
  exact in_true (n := 19) (by decide) hw
theorem wrong_jump {c : GApiCode} {E : GApiEntry} {x : GApiIns} (hw : f_r17_wrong c E x = some ((0, ()), ())) (h : x.Op = 11 ∨ x.Op = 12 ∨ x.Op = 13 ∨ x.Op = 14) : 0 ≤ x.A ∧ x.A < E.Len := by
  rw [f_r17_wrong_eq] at hw
  have h2 : f_r17_wrong_j2 E x = some ((0, ()), ()) := by
    rcases h with h | h | h | h <;> rw [h] at hw <;> exact hw
  rw [f_r17_wrong_j2_eq] at h2
  exact in_true (n := 17) (by decide) h2
theorem Rel.mono {k k' : Nat} {A : GVerifyFlow} {F : GR17F} (h : Rel k A F) (hk : k ≤ k') : Rel k' A F :=
  ⟨h.e, h.d, h.len, h.gone, h.err, h.small, h.heap, h.nodup, h.todo, fun x hx => by have := h.depth x hx; omega, h.seen⟩
theorem reach_err (F : GR17F) (h : F.Error ≠ 0) (a b : Int) : f_r17_F_reach_o1 F a b = some ((F, ()), ()) := by
  rw [f_r17_F_reach_o1_eq, decide_eq_false h]; rfl
theorem step_end {k : Nat} {A : GVerifyFlow} {F : GR17F} (h : Rel k A F) (hk : k ≤ 100000) (x : GApiIns) (i d t p : Nat) (ht : t ≤ d) (hp : p ≤ 1) (hd : d + 1 ≤ k) (hi : i < 65536) :
    (∃ e : Int, e ≠ 0 ∧ ∃ A' F', f_verify_flow_step_j2 (i : Int) (d : Int) (((t : Int), (p : Int), ()), ()) 0 x A = some ((e, ()), (A', ())) ∧ f_r17_F_step_o1_j4 (i : Int) (d : Int) (((t : Int), (p : Int), ()), ()) F x = some ((F', ()), ()) ∧ F'.Error = e) ∨
    ∃ A' F', f_verify_flow_step_j2 (i : Int) (d : Int) (((t : Int), (p : Int), ()), ()) 0 x A = some ((0, ()), (A', ())) ∧ f_r17_F_step_o1_j4 (i : Int) (d : Int) (((t : Int), (p : Int), ()), ()) F x = some ((F', ()), ()) ∧ Rel k A' F' ∧ F'.Gone = F.Gone ∧ F'.E = F.E ∧ F'.D.length = F.D.length := by
  rw [f_verify_flow_step_j2_eq, f_r17_F_step_o1_j4_eq]
  by_cases c1 : x.Op = 11
  · rw [decide_eq_true c1]; exact .inr ⟨A, F, rfl, rfl, h, rfl, rfl, rfl⟩
  by_cases c2 : x.Op = 25
  · rw [decide_eq_false c1, decide_eq_true c2]; exact .inr ⟨A, F, rfl, rfl, h, rfl, rfl, rfl⟩
  by_cases c3 : x.Op = 26
  · rw [decide_eq_false c1, decide_eq_false c2, decide_eq_true c3]; exact .inr ⟨A, F, rfl, rfl, h, rfl, rfl, rfl⟩
  have e1 : w64 ((i : Int) + 1) = ((i + 1 : Nat) : Int) := by rw [wrap64 (by omega) (by omega)]; omega
  have e2 : w64 (w64 ((d : Int) - (t : Int)) + (p : Int)) = ((d - t + p : Nat) : Int) := by
    rw [wrap64 (n := (d : Int) - t) (by omega) (by omega), wrap64 (by omega) (by omega)]; omega
  simp only [decide_eq_false c1, decide_eq_false c2, decide_eq_false c3, cond_false, decide_true, Bool.not_true, e1, e2]
  rcases reach_rel h (i + 1) (d - t + p) (by omega) with ⟨e, he, g1, g2⟩ | ⟨A', F', g1, g2, g3⟩
  · rw [g1, g2]
    exact .inl ⟨e, he, A, _, rfl, rfl, rfl⟩
  · rw [g1, g2]
    exact .inr ⟨A', F', rfl, rfl, g3⟩
theorem step_end_err {A : GVerifyFlow} {F : GR17F} {e : Int} (he : e ≠ 0) (hF : F.Error = e) (x : GApiIns) (a d : Int) (r : RT15) :
    f_verify_flow_step_j2 a d r e x A = some ((e, ()), (A, ())) ∧ f_r17_F_step_o1_j4 a d r F x = some ((F, ()), ()) := by
  rw [f_verify_flow_step_j2_eq, f_r17_F_step_o1_j4_eq, decide_eq_false he]
  refine ⟨rfl, ?_⟩
  rw [reach_err F (by rw [hF]; exact he)]
  by_cases c1 : x.Op = 11
  · rw [decide_eq_true c1]; rfl
  by_cases c2 : x.Op = 25
  · rw [decide_eq_false c1, decide_eq_true c2]; rfl
  by_cases c3 : x.Op = 26
  · rw [decide_eq_false c1, decide_eq_false c2, decide_eq_true c3]; rfl
  simp only [decide_eq_false c1, decide_eq_false c2, decide_eq_false c3, cond_false, Option.bind_some]
theorem step_jump {k : Nat} {A : GVerifyFlow} {F : GR17F} (h : Rel k A F) (hk : k ≤ 100000) (x : GApiIns) (i d t p q dp : Nat) (ht : t ≤ d) (hp : p ≤ 1) (hd : d + 1 ≤ k) (hq : dp ≤ k) (hi : i < 65536) :
    (∃ e : Int, e ≠ 0 ∧ ∃ A' F', ((f_verify_flow_reach A (q : Int) (dp : Int)).bind fun (r : RT10) => (f_verify_flow_step_j2 (i : Int) (d : Int) (((t : Int), (p : Int), ()), ()) r.1.1 x r.2.1)) = some ((e, ()), (A', ())) ∧ ((f_r17_F_reach_o1 F (q : Int) (dp : Int)).bind fun (r : RT7) => f_r17_F_step_o1_j4 (i : Int) (d : Int) (((t : Int), (p : Int), ()), ()) r.1.1 x) = some ((F', ()), ()) ∧ F'.Error = e) ∨
    ∃ A' F', ((f_verify_flow_reach A (q : Int) (dp : Int)).bind fun (r : RT10) => (f_verify_flow_step_j2 (i : Int) (d : Int) (((t : Int), (p : Int), ()), ()) r.1.1 x r.2.1)) = some ((0, ()), (A', ())) ∧ ((f_r17_F_reach_o1 F (q : Int) (dp : Int)).bind fun (r : RT7) => f_r17_F_step_o1_j4 (i : Int) (d : Int) (((t : Int), (p : Int), ()), ()) r.1.1 x) = some ((F', ()), ()) ∧ Rel k A' F' ∧ F'.Gone = F.Gone ∧ F'.E = F.E ∧ F'.D.length = F.D.length := by
  rcases reach_rel h q dp hq with ⟨e, he, g1, g2⟩ | ⟨A', F', g1, g2, g3, g4, g5, g6⟩
  · rw [g1, g2]
    simp only [Option.bind_some]
    obtain ⟨q1, q2⟩ := step_end_err (A := A) (F := ⟨F.E, F.D, F.Gone, e⟩) he rfl x (i : Int) (d : Int) (((t : Int), (p : Int), ()), ())
    exact .inl ⟨e, he, A, _, q1, q2, rfl⟩
  · rw [g1, g2]
    simp only [Option.bind_some]
    rcases step_end g3 hk x i d t p ht hp hd hi with h1 | ⟨A2, F2, m1, m2, m3, m4, m5, m6⟩
    · exact .inl h1
    · exact .inr ⟨A2, F2, m1, m2, m3, m4.trans g4, m5.trans g5, m6.trans g6⟩
theorem step_rel {k : Nat} {A : GVerifyFlow} {c : GApiCode} {E : GApiEntry} {D : List Int} {G : List Bool} {i : Nat} (hfn : FnR c E) (hi : i < D.length) (hi0 : 0 ≤ D[i])
    (h : Rel k A ⟨E, D, G.set i true, 0⟩) (hk : k < 100000) :
    (∃ e : Int, e ≠ 0 ∧ ∃ A' F', f_verify_flow_step A c (i : Int) = some ((e, ()), (A', ())) ∧ f_r17_F_step_o1 ⟨E, D, G, 0⟩ c (i : Int) = some ((F', ()), ()) ∧ F'.Error = e) ∨
    ∃ A' F', f_verify_flow_step A c (i : Int) = some ((0, ()), (A', ())) ∧ f_r17_F_step_o1 ⟨E, D, G, 0⟩ c (i : Int) = some ((F', ()), ()) ∧ Rel (k + 1) A' F' ∧ F'.Gone = G.set i true ∧ F'.E = E ∧ F'.D.length = D.length := by
  have hA0 : A = ⟨E, D, A.todo_⟩ := by
    have h1 := h.e; have h2 := h.d
    obtain ⟨a1, a2, a3⟩ := A
    simp only at h1 h2
    rw [h1, h2]
  have hlen := h.len
  have hG : G.length = D.length := by simpa using h.gone
  simp only at hlen
  have hin : E.At.toNat + i < c.Ins.length := by have := hfn.at0; have := hfn.fit; omega
  obtain ⟨x, hx⟩ : ∃ x, c.Ins[E.At.toNat + i]? = some x := ⟨_, List.getElem?_eq_getElem hin⟩
  have hw := hfn.ok i (by omega) x hx
  have hxm : x ∈ c.Ins := List.mem_of_getElem? hx
  obtain ⟨o1, o2⟩ := hfn.op x hxm
  have hcall := wrong_call hw
  have hjump := wrong_jump hw
  obtain ⟨t, p, hp, heff⟩ := effect_at c hfn.fns x o1 o2 hcall
  have heff2 : f_r17_Effect c x = some (((t : Int), (p : Int), ()), ()) := by rw [← effect_same c x o1 o2]; exact heff
  have eidx : w64 (E.At + (i : Int)) = ((E.At.toNat + i : Nat) : Int) := by
    have := hfn.at0; have := hfn.fit; have := hfn.big
    rw [wrap64 (by omega) (by omega)]; omega
  have hgx : getI c.Ins (w64 (E.At + (i : Int))) = some x := by
    rw [eidx, getI_nat' hin]
    exact (List.getElem?_eq_getElem hin).symm.trans hx
  obtain ⟨d, hd⟩ : ∃ d : Nat, D[i] = (d : Int) := ⟨D[i].toNat, by omega⟩
  have hdk : d ≤ k := by have := h.depth D[i] (List.getElem_mem hi); omega
  have hsm := h.small
  simp only at hsm
  rw [hA0] at h ⊢
  generalize A.todo_ = w at *
  clear hA0
  rw [f_verify_flow_step_eq, f_r17_F_step_o1_eq]
  simp only [hgx, Option.bind_some, getI_nat' hi, Int.toNat_natCast, List.getElem?_eq_getElem hi, hd, heff, heff2, getI_nat' (show i < G.length by omega), List.getElem?_eq_getElem (show i < G.length by omega), setN]
  have err : ∀ (F' : GR17F), F'.Error = 18 → ∀ {r : Option RT10} {r' : Option RT7}, r = some ((18, ()), ((⟨E, D, w⟩ : GVerifyFlow), ())) → r' = some ((F', ()), ()) →
      (∃ e : Int, e ≠ 0 ∧ ∃ A' F', r = some ((e, ()), (A', ())) ∧ r' = some ((F', ()), ()) ∧ F'.Error = e) ∨ ∃ A' F', r = some ((0, ()), (A', ())) ∧ r' = some ((F', ()), ()) ∧ Rel (k + 1) A' F' ∧ F'.Gone = G.set i true ∧ F'.E = E ∧ F'.D.length = D.length :=
    fun F' hF r r' h1 h2 => .inl ⟨18, by decide, _, F', h1, h2, hF⟩
  by_cases c1 : (t : Int) > (d : Int)
  · rw [decide_eq_true c1]
    simp only [cond_true, f_r17_F_step_o1_j0_eq]
    exact err _ rfl rfl rfl
  rw [decide_eq_false c1]
  simp only [cond_false, f_verify_flow_ends_eq]
  have hres := hfn.res
  have go : ∀ {r : Option RT10} {r' : Option RT7}, r = (cond (decide (x.Op = 11)) ((f_verify_flow_step_j0 (i : Int) (d : Int) (((t : Int), (p : Int), ()), ()) x ⟨E, D, w⟩)) (cond (decide (x.Op = 12)) ((f_verify_flow_step_j0 (i : Int) (d : Int) (((t : Int), (p : Int), ()), ()) x ⟨E, D, w⟩)) (cond (decide (x.Op = 13)) ((f_verify_flow_step_j1 (i : Int) (d : Int) (((t : Int), (p : Int), ()), ()) x ⟨E, D, w⟩)) (cond (decide (x.Op = 14)) ((f_verify_flow_step_j1 (i : Int) (d : Int) (((t : Int), (p : Int), ()), ()) x ⟨E, D, w⟩)) ((f_verify_flow_step_j2 (i : Int) (d : Int) (((t : Int), (p : Int), ()), ()) 0 x ⟨E, D, w⟩)))))) →
      r' = f_r17_F_step_o1_j3 (i : Int) (d : Int) (((t : Int), (p : Int), ()), ()) ⟨E, D, G, 0⟩ x (G.set i true) →
      (∃ e : Int, e ≠ 0 ∧ ∃ A' F', r = some ((e, ()), (A', ())) ∧ r' = some ((F', ()), ()) ∧ F'.Error = e) ∨ ∃ A' F', r = some ((0, ()), (A', ())) ∧ r' = some ((F', ()), ()) ∧ Rel (k + 1) A' F' ∧ F'.Gone = G.set i true ∧ F'.E = E ∧ F'.D.length = D.length := by
    intro r r' hr hr'
    subst hr hr'
    have h' : Rel (k + 1) ⟨E, D, w⟩ ⟨E, D, G.set i true, 0⟩ := h.mono (by omega)
    have e3 : w64 ((d : Int) - (t : Int)) = ((d - t : Nat) : Int) := by rw [wrap64 (by omega) (by omega)]; omega
    rw [f_r17_F_step_o1_j3_eq]
    have jmp : ∀ dp : Nat, dp ≤ k + 1 → (x.Op = 11 ∨ x.Op = 12 ∨ x.Op = 13 ∨ x.Op = 14) → _ := fun dp hdp hop =>
      step_jump h' (by omega) x i d t p x.A.toNat dp (by omega) hp (by omega) hdp (by omega)
    by_cases a1 : x.Op = 11
    · rw [decide_eq_true a1]
      simp only [cond_true]
      have := jmp (d - t) (by omega) (.inl a1)
      rw [Int.toNat_of_nonneg (hjump (.inl a1)).1] at this
      rw [f_verify_flow_step_j0_eq, f_r17_F_step_o1_j1_eq, e3]
      exact this
    by_cases a2 : x.Op = 12
    · rw [decide_eq_false a1, decide_eq_true a2]
      simp only [cond_true, cond_false]
      have := jmp (d - t) (by omega) (.inr (.inl a2))
      rw [Int.toNat_of_nonneg (hjump (.inr (.inl a2))).1] at this
      rw [f_verify_flow_step_j0_eq, f_r17_F_step_o1_j1_eq, e3]
      exact this
    by_cases a3 : x.Op = 13
    · rw [decide_eq_false a1, decide_eq_false a2, decide_eq_true a3]
      simp only [cond_true, cond_false]
      have := jmp d (by omega) (.inr (.inr (.inl a3)))
      rw [Int.toNat_of_nonneg (hjump (.inr (.inr (.inl a3)))).1] at this
      rw [f_verify_flow_step_j1_eq, f_r17_F_step_o1_j2_eq]
      exact this
    by_cases a4 : x.Op = 14
    · rw [decide_eq_false a1, decide_eq_false a2, decide_eq_false a3, decide_eq_true a4]
      simp only [cond_true, cond_false]
      have := jmp d (by omega) (.inr (.inr (.inr a4)))
      rw [Int.toNat_of_nonneg (hjump (.inr (.inr (.inr a4)))).1] at this
      rw [f_verify_flow_step_j1_eq, f_r17_F_step_o1_j2_eq]
      exact this
    rw [decide_eq_false a1, decide_eq_false a2, decide_eq_false a3, decide_eq_false a4]
    simp only [cond_false]
    exact step_end h' (by omega) x i d t p (by omega) hp (by omega) (by omega)
  by_cases b1 : x.Op = 1
  · rw [b1] at go ⊢
    by_cases z : (d : Int) = 0
    · rw [decide_eq_true z]; exact go rfl rfl
    · rw [decide_eq_false z]; exact err _ rfl rfl (f_r17_F_step_o1_j0_eq _ _)
  by_cases b2 : x.Op = 25
  · rw [b2] at go ⊢
    by_cases z : (d : Int) = 1
    · rw [decide_eq_true z]
      rcases hres with z2 | z2
      · simp only [z2]; exact err _ rfl rfl (f_r17_F_step_o1_j0_eq _ _)
      · simp only [z2]; exact go rfl rfl
    · rw [decide_eq_false z]; exact err _ rfl rfl (f_r17_F_step_o1_j0_eq _ _)
  by_cases b3 : x.Op = 26
  · rw [b3] at go ⊢
    by_cases z : (d : Int) = 0
    · rw [decide_eq_true z]
      rcases hres with z2 | z2
      · simp only [z2]; exact go rfl rfl
      · simp only [z2]; exact err _ rfl rfl (f_r17_F_step_o1_j0_eq _ _)
    · rw [decide_eq_false z]; exact err _ rfl rfl (f_r17_F_step_o1_j0_eq _ _)
  rw [decide_eq_false b1, decide_eq_false b2, decide_eq_false b3]
  exact go rfl rfl
end Go.Proofs.YtabmahknlebhpaaGreat
