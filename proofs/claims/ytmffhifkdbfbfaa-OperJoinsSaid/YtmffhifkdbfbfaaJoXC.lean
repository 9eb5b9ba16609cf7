/- Parts of the proof. -/
import Derived.Test.YtmffhifkdbfbfaaJoXB
import Derived.Deep.LoopGhost
namespace Go.Proofs.Ytmffhifkdbfbfaa
open Go.RowKit
set_option linter.unusedVariables false
variable {C : Ctx} {st st' : St} {L L' : Nat → Loc} {a : Act} {w : World} {P : Program}
inductive LeT : T → T → Prop
  | refl (x : T) : LeT x x
  | nil (k : Nat) : LeT (.v (.slice none 0 0)) (.sl k [])
  | nil0 (k k' : Nat) : LeT (.sl k []) (.sl k' [])
  | sl (k : Nat) (xs ys : List (List T)) (hl : xs.length = ys.length) (hk : ∀ i (hi : i < xs.length) (hi' : i < ys.length), (xs[i]).length = (ys[i]).length)
      (h : ∀ i (hi : i < xs.length) (hi' : i < ys.length) j (hj : j < (xs[i]).length) (hj' : j < (ys[i]).length), LeT (xs[i][j]) (ys[i][j])) : LeT (.sl k xs) (.sl k ys)
theorem LeT.rep {w : World} {M : Nat → Prop} {x y : T} (h : LeT x y) : ∀ {v : Value}, RepT w M x v → RepT w M y v := by
  induction h with
  | refl x => intro v h; exact h
  | nil k => intro v h; cases h; exact .nil k none 0 (Nat.zero_le _)
  | nil0 k k' =>
    intro v h
    cases h with
    | nil _ a cap hcm => exact .nil k' a cap hcm
    | sl _ _ b off cap c hb hM hcap hcm hk hc hr => exact .sl k' [] b off cap c hb hM hcap hcm (fun i hi => by simp at hi) (fun i hi => by simp at hi) (fun i hi => by simp at hi)
  | sl k xs ys hl hk h ih =>
    intro v h
    cases h with
    | nil _ a cap hcm =>
      have : ys = [] := List.eq_nil_of_length_eq_zero (by simpa using hl.symm)
      subst this
      exact .nil k a cap hcm
    | sl _ _ b off cap c hb hM hcap hcm hkk hc hr =>
      rw [hl]
      refine .sl k ys b off cap c hb hM (by omega) hcm (fun i hi => by rw [← hk i (by omega) hi]; exact hkk i (by omega)) (fun i hi j hj => hc i (by omega) j hj) (fun i hi j hj => ?_)
      have hj' : j < (xs[i]'(by omega)).length := by rw [hk i (by omega) hi]; exact hj
      exact ih i (by omega) hi j hj' hj (hr i (by omega) j hj')
theorem LeT.map {α : Type} {k : Nat} (f : α → List T) (l : List α) (xs : List (List T)) (h : xs = l.map f) : LeT (.sl k xs) (.sl k (l.map f)) := by subst h; exact .refl _
def look {α : Type} : List (Nat × α) → Nat → Option α
  | [], _ => none
  | (k, x) :: l, i => if i = k then some x else look l i
def mkSt (n : Nat) (es : List (Nat × A)) (ms : List (Nat × Blk)) : St := ⟨n, fun t => (look es t).getD .dead, look ms, fun i => (look ms i).isSome⟩
theorem look_mem {α : Type} : ∀ {l : List (Nat × α)} {i : Nat} {x : α}, look l i = some x → (i, x) ∈ l
  | [], i, x, h => by cases h
  | (k, y) :: l, i, x, h => by
    unfold look at h
    split at h
    · rename_i e; subst e; cases h; exact List.mem_cons_self
    · exact List.mem_cons_of_mem _ (look_mem h)
def src1 (i : Nat) : A → Option Nat
  | .ref j => some j
  | .t (.v (.slice none 0 0)) => none
  | _ => some i
def srcC (i c : Nat) : Option Blk → Option Nat
  | some (.box _ cells) => src1 i ((cells[c]?).getD .dead)
  | _ => some i
def srcId (st : St) (i : Nat) : Option Nat :=
  if i < 1000 then some i
  else if i < 100000 then src1 i (st.env (i - 1000))
  else srcC i ((i - 100000) % 100) (st.mem ((i - 100000) / 100))
def le1 (ρ : Nat → Option Nat) (st : St) (ms : List (Nat × Blk)) : A → A → Prop
  | .t x, .t y => LeT x y
  | .t x, .ref i => x = .v (.slice none 0 0) ∧ ρ i = none ∧ ∃ e k, look ms i = some (.row e k [])
  | .ref j, .ref i => ρ i = some j ∧ (look ms i).isSome = true
  | .ref j, .t y => ∃ e k xs, st.mem j = some (.row e k xs) ∧ LeT (.sl k xs) y ∧ ∀ p ∈ ms, ρ p.1 ≠ some j
  | .ptr j o, .ptr i o' => ρ i = some j ∧ o = o' ∧ (look ms i).isSome = true
  | .rptr j p q, .rptr i p' q' => ρ i = some j ∧ p = p' ∧ q = q' ∧ (look ms i).isSome = true
  | .ob j, .ob i => ρ i = some j ∧ (look ms i).isSome = true
  | .fel x, .fel y => x = y
  | _, _ => False
def leCells (ρ : Nat → Option Nat) (st : St) (ms : List (Nat × Blk)) : List A → List A → Prop
  | [], [] => True
  | x :: l, y :: r => le1 ρ st ms x y ∧ leCells ρ st ms l r
  | _, _ => False
def le2 (ρ : Nat → Option Nat) (st : St) (ms : List (Nat × Blk)) : A → A → Prop
  | .agg cs, .agg ds => leCells ρ st ms cs ds
  | x, y => le1 ρ st ms x y
def leA (ρ : Nat → Option Nat) (st : St) (ms : List (Nat × Blk)) : A → A → Prop
  | _, .dead => True
  | .tup cs, .tup ds => leCells ρ st ms cs ds
  | x, y => le2 ρ st ms x y
def leRows : List (List T) → List (List T) → Prop
  | xs, ys => xs.length = ys.length ∧ (∀ i (hi : i < xs.length) (hi' : i < ys.length), (xs[i]).length = (ys[i]).length) ∧ ∀ i (hi : i < xs.length) (hi' : i < ys.length) j (hj : j < (xs[i]).length) (hj' : j < (ys[i]).length), LeT (xs[i][j]) (ys[i][j])
theorem leRows_refl (xs : List (List T)) : leRows xs xs := ⟨rfl, fun _ _ _ => rfl, fun _ _ _ _ _ _ => .refl _⟩
def leB (ρ : Nat → Option Nat) (st : St) (ms : List (Nat × Blk)) : Blk → Blk → Prop
  | .box ty cs, .box ty' ds => ty = ty' ∧ leCells ρ st ms cs ds
  | .row e k xs, .row e' k' ys => e = e' ∧ k = k' ∧ leRows xs ys
  | .obj x, .obj y => x = y
  | _, _ => False
def leM (ρ : Nat → Option Nat) (st : St) (ms : List (Nat × Blk)) (p : Nat × Blk) : Prop :=
  match ρ p.1 with
  | some j => ∃ b, st.mem j = some b ∧ leB ρ st ms b p.2
  | none => ∃ e k, p.2 = .row e k [] ∧ 0 < k
theorem le1_single {ρ : Nat → Option Nat} {ms : List (Nat × Blk)} {x y : A} (h : le1 ρ st ms x y) : y.single = true := by
  unfold le1 at h
  split at h <;> first | rfl | exact h.elim
theorem leCells_get {ρ : Nat → Option Nat} {ms : List (Nat × Blk)} : ∀ {cs ds : List A}, leCells ρ st ms cs ds → cs.length = ds.length ∧ ∀ i (hi : i < cs.length) (hi' : i < ds.length), le1 ρ st ms (cs[i]) (ds[i])
  | [], [], _ => ⟨rfl, fun i hi => by simp at hi⟩
  | x :: l, y :: r, h => by
    obtain ⟨h1, h2⟩ := h
    obtain ⟨h3, h4⟩ := leCells_get h2
    refine ⟨by simp [h3], fun i hi hi' => ?_⟩
    cases i with
    | zero => exact h1
    | succ i => exact h4 i (by simpa using hi) (by simpa using hi')
  | [], y :: r, h => h.elim
  | x :: l, [], h => h.elim
section fit
variable {ρ : Nat → Option Nat} {es : List (Nat × A)} {ms : List (Nat × Blk)}
structure FitR (ρ : Nat → Option Nat) (st : St) (es : List (Nat × A)) (ms : List (Nat × Blk)) : Prop where
  hes : ∀ p ∈ es, leA ρ st ms (st.env p.1) p.2
  hms : ∀ p ∈ ms, leM ρ st ms p
  inj : ∀ p ∈ ms, ∀ q ∈ ms, ∀ j, ρ p.1 = some j → ρ q.1 = some j → p.1 = q.1
theorem fit_rep1 (hs : SimL C st L a w) (hf : FitR ρ st es ms) {L' : Nat → Loc} (hL : ∀ i, L' i = match ρ i with | some j => L j | none => nol) {M' : Nat → Prop}
    (hM : ∀ b, M' b → Mut C st L b) (hfz : ∀ j, (∀ p ∈ ms, ρ p.1 ≠ some j) → (st.mem j).isSome = true → ∀ b, (L j).has b → ¬ M' b) {n : Nat} {x y : A} {v : Value} (h : le1 ρ st ms x y) (hr : RepA st L w (Mut C st L) x v) : RepA (mkSt n es ms) L' w M' y v := by
  have hmem : ∀ {i : Nat} {b' : Blk}, look ms i = some b' → ∀ {j}, ρ i = some j → ∃ b, st.mem j = some b ∧ leB ρ st ms b b' := fun {i b'} hi {j} hj => by
    have := hf.hms _ (look_mem hi)
    unfold leM at this
    rw [hj] at this
    exact this
  unfold le1 at h
  split at h
  · exact .t _ _ (h.rep ((rep_t hr).ext (Ext.refl _ _) (fun b _ => hM b)))
  · obtain ⟨rfl, hn, e, k, hl⟩ := h
    have := rep_val hr
    subst this
    refine .ref _ _ rfl (by simp [mkSt, hl]) fun e' k' xs' hm => ?_
    have : look ms _ = some (.row e' k' xs') := hm
    rw [hl] at this
    cases this
    rw [hL, hn]; rfl
  · rename_i j i
    obtain ⟨hj, hl⟩ := h
    cases hr with
    | ref _ _ h1 hus hq =>
      refine .ref _ _ h1 hl fun e' k' xs' hm => ?_
      obtain ⟨b, hb, hle⟩ := hmem hm hj
      cases b with
      | box => exact hle.elim
      | obj => exact hle.elim
      | row e k xs =>
        rw [hL, hj]
        have := hq _ _ _ hb
        rw [this, hle.2.2.1]
  · rename_i j y
    obtain ⟨e, k, xs, hm, hle, hne⟩ := h
    cases hr with
    | ref _ _ h1 hus hq =>
      rw [hq _ _ _ hm]
      exact .t _ _ (hle.rep (row_rep (hs.mem _ _ hm).2 (fun b hb => ⟨(hs.out j b (by rw [hm]; rfl) (.inl hb)).2.1, hfz j hne (by rw [hm]; rfl) b (.inl hb)⟩) (fun b _ => hM b)))
  · rename_i j o i o'
    obtain ⟨hj, rfl, hl⟩ := h
    cases hr with
    | ptr _ _ _ h1 hus hq =>
      refine .ptr _ _ _ h1 hl fun ty cs hm => ?_
      obtain ⟨b, hb, hle⟩ := hmem hm hj
      cases b with
      | box ty' cs' => rw [hL, hj]; exact hq _ _ hb
      | row => exact hle.elim
      | obj => exact hle.elim
  · rename_i j p q i p' q'
    obtain ⟨hj, rfl, rfl, hl⟩ := h
    cases hr with
    | rptr _ _ _ _ h1 hus hq =>
      refine .rptr _ _ _ _ h1 hl fun e k xs hm => ?_
      obtain ⟨b, hb, hle⟩ := hmem hm hj
      cases b with
      | box => exact hle.elim
      | obj => exact hle.elim
      | row e' k' xs' => rw [hL, hj, ← hle.2.1]; exact hq _ _ _ hb
  · rename_i j i
    obtain ⟨hj, hl⟩ := h
    cases hr with
    | ob _ _ h1 hus hq =>
      refine .ob _ _ h1 hl fun od hm => ?_
      obtain ⟨b, hb, hle⟩ := hmem hm hj
      cases b with
      | box => exact hle.elim
      | row => exact hle.elim
      | obj od' =>
        have e : od' = od := hle
        subst e
        rw [hL, hj]; exact hq _ hb
  · subst h
    cases hr with
    | fel _ b off c hb hm hc hr => exact .fel _ b off c hb (fun h => hm (hM b h)) hc fun j hj => (hr j hj).ext (Ext.refl _ _) (fun b _ => hM b)
  · exact h.elim
theorem fit_rep2 (hs : SimL C st L a w) (hf : FitR ρ st es ms) {L' : Nat → Loc} (hL : ∀ i, L' i = match ρ i with | some j => L j | none => nol) {M' : Nat → Prop}
    (hM : ∀ b, M' b → Mut C st L b) (hfz : ∀ j, (∀ p ∈ ms, ρ p.1 ≠ some j) → (st.mem j).isSome = true → ∀ b, (L j).has b → ¬ M' b) {n : Nat} {x y : A} {v : Value} (h : le2 ρ st ms x y) (hr : RepA st L w (Mut C st L) x v) : RepA (mkSt n es ms) L' w M' y v := by
  unfold le2 at h
  split at h
  · rename_i cs ds
    obtain ⟨hl, hg⟩ := leCells_get h
    cases hr with
    | agg _ vs hsz h1 hr =>
      exact .agg ds vs (by omega) (fun i hi => le1_single (hg i (by omega) hi)) (fun i hi => fit_rep1 hs hf hL hM hfz (hg i (by omega) hi) (hr i (by omega)))
  · exact fit_rep1 hs hf hL hM hfz h hr
end fit
end Go.Proofs.Ytmffhifkdbfbfaa
namespace Go.Proofs.Ytmffhifkdbfbfaa
open Go.RowKit
set_option linter.unusedVariables false
variable {C : Ctx} {st st' st2 : St} {L L' : Nat → Loc} {a : Act} {w : World} {P : Program}
def noAct : Act := { tmps := #[], defers := [] }
abbrev mst (m : List (Nat × Blk)) : St := mkSt 0 [] m
def FnIO (P : Program) (f : FuncId) (args : List A) (m : List (Nat × Blk)) (r : A) (m' : List (Nat × Blk)) : Prop :=
  plainFn P f = true ∧ ∀ (C : Ctx) (L : Nat → Loc) (vals : Array Value), C.P = P → (∀ id b, C.pin id = some b → 900 ≤ id) → SimL C (mst m) L noAct C.w0 → vals.size = args.length →
    (∀ i (hi : i < args.length), RepA (mst m) L C.w0 (Mut C (mst m) L) (args[i]) (vals.getD i undef)) →
    Calls P f vals C.w0 fun e w' => ∃ v L', e = .returned v ∧ SimL C (mst m') L' noAct w' ∧ RepA (mst m') L' w' (Mut C (mst m') L') r v
def le3s (ρ : Nat → Option Nat) (st : St) (ms : List (Nat × Blk)) : List A → List A → Prop
  | [], [] => True
  | x :: l, y :: r => le2 ρ st ms x y ∧ le3s ρ st ms l r
  | _, _ => False
def le3 (ρ : Nat → Option Nat) (st : St) (ms : List (Nat × Blk)) : A → A → Prop
  | .tup cs, .tup ds => le3s ρ st ms cs ds
  | x, y => le2 ρ st ms x y
theorem le3s_get {ρ : Nat → Option Nat} {ms : List (Nat × Blk)} : ∀ {cs ds : List A}, le3s ρ st ms cs ds → cs.length = ds.length ∧ ∀ i (hi : i < cs.length) (hi' : i < ds.length), le2 ρ st ms (cs[i]) (ds[i])
  | [], [], _ => ⟨rfl, fun i hi => by simp at hi⟩
  | x :: l, y :: r, h => by
    obtain ⟨h1, h2⟩ := h
    obtain ⟨h3, h4⟩ := le3s_get h2
    refine ⟨by simp [h3], fun i hi hi' => ?_⟩
    cases i with
    | zero => exact h1
    | succ i => exact h4 i (by simpa using hi) (by simpa using hi')
  | [], y :: r, h => h.elim
  | x :: l, [], h => h.elim
section fit
variable {ρ : Nat → Option Nat} {ms : List (Nat × Blk)}
def locOf (ρ : Nat → Option Nat) (L : Nat → Loc) : Nat → Loc := fun i => match ρ i with | some j => L j | none => nol
theorem fit_src (hf : FitR ρ st [] ms) {i : Nat} {b' : Blk} (hi : look ms i = some b') {b : Nat} (hb : (locOf ρ L i).has b) : ∃ j, ρ i = some j ∧ (st.mem j).isSome = true ∧ (L j).has b := by
  have := hf.hms _ (look_mem hi)
  unfold leM at this
  unfold locOf at hb
  cases hj : ρ i with
  | none => rw [hj] at hb; exact (nol_has hb).elim
  | some j =>
    rw [hj] at hb this
    obtain ⟨c, hc, _⟩ := this
    exact ⟨j, rfl, by rw [hc]; rfl, hb⟩
theorem fit_fz (hs : SimL C st L a w) (hf : FitR ρ st [] ms) : ∀ j, (∀ p ∈ ms, ρ p.1 ≠ some j) → (st.mem j).isSome = true → ∀ b, (L j).has b → ¬ (∃ i, (look ms i).isSome = true ∧ (locOf ρ L i).has b) := by
  rintro j hne hj b hb ⟨i, hi, hl⟩
  obtain ⟨b', hb'⟩ := Option.isSome_iff_exists.1 hi
  obtain ⟨q, h0, h1, h2⟩ := fit_src hf hb' hl
  have := hs.inj q j b h1 hj h2 hb
  subst this
  exact hne _ (look_mem hb') h0
theorem fit_repB (hs : SimL C st L a w) (hf : FitR ρ st [] ms) {M' : Nat → Prop} (hM : ∀ b, M' b → Mut C st L b)
    (hfz : ∀ j, (∀ p ∈ ms, ρ p.1 ≠ some j) → (st.mem j).isSome = true → ∀ b, (L j).has b → ¬ M' b) {i : Nat} {b' : Blk} (hi : look ms i = some b') : RepB (mkSt 0 [] ms) (locOf ρ L) w M' i b' := by
  have hLo : ∀ i, locOf ρ L i = match ρ i with | some j => L j | none => nol := fun i => rfl
  have := hf.hms _ (look_mem hi)
  unfold leM at this
  cases hj : ρ i with
  | none =>
    rw [hj] at this
    obtain ⟨e, k, rfl, h0⟩ := this
    exact ⟨h0, fun q hq => by simp at hq, .inl ⟨rfl, by rw [hLo, hj]⟩⟩
  | some j =>
    rw [hj] at this
    obtain ⟨b, hb, hle⟩ := this
    have hrep := (hs.mem j b hb).2
    have hLi : locOf ρ L i = L j := by rw [hLo, hj]
    cases b with
    | obj od =>
      cases b' with
      | row => exact hle.elim
      | box => exact hle.elim
      | obj od' =>
        have e : od = od' := hle
        subst e
        obtain ⟨g, o, hg1, hw, hr⟩ := hrep
        exact ⟨g, o, by rw [hLi]; exact hg1, hw, by rw [hLi]; exact hr.ext (Ext.refl _ _) (fun b _ => hM b) rfl (fun _ _ => rfl)⟩
    | box ty cs =>
      cases b' with
      | row => exact hle.elim
      | obj => exact hle.elim
      | box ty' ds =>
        obtain ⟨rfl, hle⟩ := hle
        obtain ⟨hl, hg⟩ := leCells_get hle
        obtain ⟨g, vs, hg1, hw, hsz, hr⟩ := hrep
        exact ⟨g, vs, by rw [hLi]; exact hg1, hw, by omega, fun q hq => ⟨le1_single (hg q (by omega) hq), fit_rep1 hs hf hLo hM hfz (hg q (by omega) hq) (hr q (by omega)).2⟩⟩
    | row e k xs =>
      cases b' with
      | box => exact hle.elim
      | obj => exact hle.elim
      | row e' k' ys =>
        obtain ⟨rfl, rfl, hl, hk, hle⟩ := hle
        obtain ⟨h0, hkk, hq⟩ := hrep
        refine ⟨h0, fun q hq => by rw [← hk q (by omega) hq]; exact hkk q (by omega), ?_⟩
        rcases hq with ⟨hxs, hn⟩ | ⟨g, cur, hg1, hw, hle1, hcm, hsz, hc⟩
        · subst hxs
          exact .inl ⟨List.eq_nil_of_length_eq_zero (by simpa using hl.symm), by rw [hLi]; exact hn⟩
        · refine .inr ⟨g, cur, by rw [hLi]; exact hg1, hw, by rw [hLi]; omega, by rw [hLi]; exact hcm, by rw [hLi]; exact hsz, fun p hp q hq => ?_⟩
          have hq' : q < (xs[p]'(by omega)).length := by rw [hk p (by omega) hp]; exact hq
          obtain ⟨c, hc1, hc2⟩ := hc p (by omega) q hq'
          exact ⟨c, hc1, (hle p (by omega) hp q hq' hq).rep (hc2.ext (Ext.refl _ _) (fun b _ => hM b))⟩
theorem fit_rep3 (hs : SimL C st L a w) (hf : FitR ρ st [] ms) {M' : Nat → Prop} (hM : ∀ b, M' b → Mut C st L b)
    (hfz : ∀ j, (∀ p ∈ ms, ρ p.1 ≠ some j) → (st.mem j).isSome = true → ∀ b, (L j).has b → ¬ M' b) {x y : A} {v : Value} (h : le3 ρ st ms x y) (hr : RepA st L w (Mut C st L) x v) : RepA (mkSt 0 [] ms) (locOf ρ L) w M' y v := by
  have hLo : ∀ i, locOf ρ L i = match ρ i with | some j => L j | none => nol := fun i => rfl
  unfold le3 at h
  split at h
  · obtain ⟨hl, hg⟩ := le3s_get h
    cases hr with
    | tup _ vs hsz hr => exact .tup _ vs (by omega) fun i hi => fit_rep2 hs hf hLo hM hfz (hg i (by omega) hi) (hr i (by omega))
  · exact fit_rep2 hs hf hLo hM hfz h hr
theorem fit_mst (hs : SimL C st L a w) (hρ : ∀ i, i < 1000 → ρ i = some i) (hf : FitR ρ st [] ms) : SimL C (mst ms) (locOf ρ L) noAct w ∧ ∀ {x y : A} {v : Value}, le3 ρ st ms x y → RepA st L w (Mut C st L) x v → RepA (mst ms) (locOf ρ L) w (Mut C (mst ms) (locOf ρ L)) y v := by
  have hM : ∀ b, Mut C (mst ms) (locOf ρ L) b → Mut C st L b := by
    rintro b (hx | ⟨i, hi, hl⟩)
    · exact .inl hx
    · obtain ⟨b', hb'⟩ := Option.isSome_iff_exists.1 hi
      obtain ⟨j, _, h1, h2⟩ := fit_src hf hb' hl
      exact .inr ⟨j, h1, h2⟩
  have hfz : ∀ j, (∀ p ∈ ms, ρ p.1 ≠ some j) → (st.mem j).isSome = true → ∀ b, (L j).has b → ¬ Mut C (mst ms) (locOf ρ L) b := by
    rintro j hne hj b hb (hx | h)
    · exact (hs.out j b hj hb).1 hx
    · exact fit_fz hs hf j hne hj b hb h
  refine ⟨⟨rfl, rfl, fun t => .dead _, fun i b' hb' => ⟨?_, fit_repB hs hf hM hfz hb'⟩, fun i j b hi hj hli hlj => ?_, fun i b hi hl => ?_, hs.old, hs.os, hs.tape, hs.output, hs.size, hs.block, fun i b hp => ⟨Nat.zero_le _, (hs.pinN i b hp).2⟩, fun i b hp hi => ?_⟩, fun h hr => fit_rep3 hs hf hM hfz h hr⟩
  · have : look ms i = some b' := hb'
    simp [mkSt, this]
  · obtain ⟨bi, hbi⟩ := Option.isSome_iff_exists.1 hi
    obtain ⟨bj, hbj⟩ := Option.isSome_iff_exists.1 hj
    obtain ⟨p, hp0, hp1, hp2⟩ := fit_src hf hbi hli
    obtain ⟨q, hq0, hq1, hq2⟩ := fit_src hf hbj hlj
    have := hs.inj p q b hp1 hq1 hp2 hq2
    subst this
    exact hf.inj _ (look_mem hbi) _ (look_mem hbj) p hp0 hq0
  · obtain ⟨bi, hbi⟩ := Option.isSome_iff_exists.1 hi
    obtain ⟨p, _, hp1, hp2⟩ := fit_src hf hbi hl
    exact hs.out p b hp1 hp2
  · obtain ⟨bi, hbi⟩ := Option.isSome_iff_exists.1 hi
    have hi' := hρ i (hs.pinN i b hp).2
    have := hf.hms _ (look_mem hbi)
    unfold leM at this
    rw [hi'] at this
    obtain ⟨c, hc, _⟩ := this
    show (locOf ρ L i).blk = some b
    unfold locOf
    rw [hi']
    exact hs.pin i b hp (by rw [hc]; rfl)
end fit
end Go.Proofs.Ytmffhifkdbfbfaa
namespace Go.Proofs.Ytmffhifkdbfbfaa
open Go.RowKit
set_option linter.unusedVariables false
variable {C : Ctx} {st st' st2 : St} {L L' : Nat → Loc} {a : Act} {w : World} {P : Program}
def ren1 (ν : Nat → Nat) : A → A
  | .ref i => .ref (ν i)
  | .ptr i o => .ptr (ν i) o
  | .rptr i p q => .rptr (ν i) p q
  | .ob i => .ob (ν i)
  | x => x
def ren2 (ν : Nat → Nat) : A → A
  | .agg cs => .agg (cs.map (ren1 ν))
  | x => ren1 ν x
def ren3 (ν : Nat → Nat) : A → A
  | .tup cs => .tup (cs.map (ren2 ν))
  | x => ren2 ν x
def Blk.ren (ν : Nat → Nat) : Blk → Blk
  | .box ty cells => .box ty (cells.map (ren1 ν))
  | b => b
def fnd : List (Nat × Blk) → (Nat → Nat) → Nat → Option (Nat × Blk)
  | [], _, _ => none
  | p :: l, ν, i => if i = ν p.1 then some p else fnd l ν i
def St.back (st : St) (J : List Nat) (m' : List (Nat × Blk)) (ν : Nat → Nat) : St :=
  { st with mem := fun i => match fnd m' ν i with | some p => some (p.2.ren ν) | none => if J.contains i then none else st.mem i,
            used := fun i => match fnd m' ν i with | some _ => true | none => st.used i }
def St.only (st : St) (J : List Nat) : St := { st with mem := fun i => if J.contains i then st.mem i else none }
def pers (id : Nat) : Bool := Nat.ble 900 id && Nat.blt id 1000
theorem fnd_mem : ∀ {l : List (Nat × Blk)} {ν : Nat → Nat} {i : Nat} {p : Nat × Blk}, fnd l ν i = some p → p ∈ l ∧ ν p.1 = i
  | [], ν, i, p, h => by cases h
  | q :: l, ν, i, p, h => by
    unfold fnd at h
    split at h
    · rename_i e; cases h; exact ⟨List.mem_cons_self, e.symm⟩
    · obtain ⟨h1, h2⟩ := fnd_mem h; exact ⟨List.mem_cons_of_mem _ h1, h2⟩
theorem fnd_none : ∀ {l : List (Nat × Blk)} {ν : Nat → Nat} {i : Nat}, fnd l ν i = none → ∀ p ∈ l, ν p.1 ≠ i
  | [], ν, i, h, p, hp => by cases hp
  | q :: l, ν, i, h, p, hp => by
    unfold fnd at h
    split at h
    · cases h
    · rename_i e
      rcases List.mem_cons.1 hp with rfl | hp
      · exact fun e' => e e'.symm
      · exact fnd_none h p hp
def notTup : A → Bool
  | .tup _ => false
  | _ => true
def tupOk : A → Bool
  | .tup cs => cs.all notTup
  | _ => true
structure CallOk (st : St) (J : List Nat) (ρ : Nat → Option Nat) (ν : Nat → Nat) (m m' : List (Nat × Blk)) : Prop where
  fit : FitR ρ (st.only J) [] m
  image : ∀ p ∈ m, ∀ j, ρ p.1 = some j → J.contains j = true
  keys : ∀ p ∈ m', look m' p.1 = some p.2
  inj : ∀ p ∈ m', ∀ q ∈ m', ν p.1 = ν q.1 → p.1 = q.1
  old : ∀ p ∈ m', pers p.1 = true → ρ p.1 = some (ν p.1) ∧ ∃ b, look m p.1 = some b ∧ b.alike p.2 ∧ ∀ e k xs, b ≠ .row e k xs
  new : ∀ p ∈ m', pers p.1 = false → st.used (ν p.1) = false ∧ (ν p.1 < st.n ∨ 1000 ≤ ν p.1)
theorem alike_ren {b c : Blk} {ν : Nat → Nat} (h : b.alike c) : b.alike (c.ren ν) := by cases b <;> cases c <;> exact h
theorem like_has {l l' : Loc} {b : Nat} (h1 : l.blk = l'.blk) (h2 : l.own = l'.own) : l.has b ↔ l'.has b := by unfold Loc.has; rw [h1, h2]
theorem call_io (hs : SimL C st L a w) {f : FuncId} {cargs : List A} {m m' : List (Nat × Blk)} {r : A} (hf : FnIO C.P f cargs m r m') {J : List Nat} {ρ : Nat → Option Nat} {ν : Nat → Nat} (hc : CallOk st J ρ ν m m') (vals : Array Value) (as : List A)
    (hsz : vals.size = as.length) (hrep : ∀ i (hi : i < as.length), RepA st L w (Mut C st L) (as[i]) (vals.getD i undef)) (hargs : le3s ρ (st.only J) m as cargs) (htup : tupOk r = true) :
    Calls C.P f vals w fun e w' => ∃ v L3, e = .returned v ∧ SimL C (st.back J m' ν) L3 a w' ∧ RepA (st.back J m' ν) L3 w' (Mut C (st.back J m' ν) L3) (ren3 ν r) v := by
  let X' : Nat → Prop := fun b => C.X b ∨ ∃ i, J.contains i = false ∧ (st.mem i).isSome = true ∧ (L i).has b
  have honly : ∀ i b', (st.only J).mem i = some b' → J.contains i = true ∧ st.mem i = some b' := fun i b' h => by
    simp only [St.only] at h
    split at h
    · exact ⟨by assumption, h⟩
    · cases h
  have hmut : ∀ b, X' b ∨ (∃ i, ((st.only J).mem i).isSome = true ∧ (L i).has b) ↔ Mut C st L b := fun b => by
    constructor
    · rintro ((h | ⟨i, _, h1, h2⟩) | ⟨i, h1, h2⟩)
      · exact .inl h
      · exact .inr ⟨i, h1, h2⟩
      · obtain ⟨b', hb'⟩ := Option.isSome_iff_exists.1 h1
        exact .inr ⟨i, by rw [(honly i b' hb').2]; rfl, h2⟩
    · rintro (h | ⟨i, h1, h2⟩)
      · exact .inl (.inl h)
      · by_cases hj : J.contains i = true
        · exact .inr ⟨i, by simp only [St.only, hj, if_true]; exact h1, h2⟩
        · exact .inl (.inr ⟨i, by simpa using hj, h1, h2⟩)
  let C1 : Ctx := ⟨C.P, X', fun b => ∃ id, (look m id).isSome = true ∧ (locOf ρ L id).has b, w, fun id => if pers id && (look m id).isSome then (locOf ρ L id).blk else none⟩
  have hsame : ∀ {x : A} {v : Value}, RepA st L w (Mut C st L) x v → RepA (st.only J) L w (Mut C st L) x v := fun h =>
    h.ext (Ext.refl _ _) (fun _ _ h => h) (fun _ h => h) (fun i _ b' hb => ⟨b', (honly i b' hb).2, b'.alike_refl, Loc.like_refl _⟩)
  have hmutE : Mut C1 (st.only J) L = Mut C st L := funext fun b => propext (hmut b)
  have hs1 : SimL ⟨C.P, X', fun _ => True, w, fun _ => none⟩ (st.only J) L a w := by
    have hmE : Mut ⟨C.P, X', fun _ => True, w, fun _ => none⟩ (st.only J) L = Mut C st L := hmutE
    refine ⟨hs.hn, hs.hd, fun t => ?_, fun i b' hb' => ?_, fun i j b hi hj hli hlj => ?_, fun i b hi hl => ?_, fun b hb => ?_, rfl, rfl, rfl, Nat.le_refl _, fun _ _ _ => rfl, fun _ _ h => (by cases h), fun _ _ h => (by cases h)⟩
    · rw [hmE]; exact hsame (hs.env t)
    · rw [hmE]
      have := hs.mem i b' (honly i b' hb').2
      exact ⟨this.1, this.2.ext (Ext.refl _ _) (fun _ _ h => h) (fun _ h => h) (fun i _ b' hb => ⟨b', (honly i b' hb).2, b'.alike_refl, Loc.like_refl _⟩) rfl (fun _ _ => rfl)⟩
    · obtain ⟨bi, hbi⟩ := Option.isSome_iff_exists.1 hi
      obtain ⟨bj, hbj⟩ := Option.isSome_iff_exists.1 hj
      exact hs.inj i j b (by rw [(honly i bi hbi).2]; rfl) (by rw [(honly j bj hbj).2]; rfl) hli hlj
    · obtain ⟨bi, hbi⟩ := Option.isSome_iff_exists.1 hi
      obtain ⟨hJ, hm⟩ := honly i bi hbi
      have ho := hs.out i b (by rw [hm]; rfl) hl
      refine ⟨?_, ho.2.1, .inl trivial⟩
      rintro (hx | ⟨q, hq, h1, h2⟩)
      · exact ho.1 hx
      · have := hs.inj q i b h1 (by rw [hm]; rfl) h2 hl
        subst this
        rw [hJ] at hq; cases hq
    · rcases hb with hx | ⟨q, _, h1, h2⟩
      · exact Nat.lt_of_lt_of_le (hs.old b hx) hs.size
      · exact (hs.out q b h1 h2).2.1
  have hMm : ∀ b, Mut C1 (mst m) (locOf ρ L) b → Mut C st L b := by
    rintro b (hx | ⟨i, hi, hl⟩)
    · exact (hmut b).1 (.inl hx)
    · obtain ⟨b', hb'⟩ := Option.isSome_iff_exists.1 hi
      obtain ⟨j, _, h1, h2⟩ := fit_src hc.fit hb' hl
      exact (hmut b).1 (.inr ⟨j, h1, h2⟩)
  have hfz : ∀ j, (∀ p ∈ m, ρ p.1 ≠ some j) → ((st.only J).mem j).isSome = true → ∀ b, (L j).has b → ¬ Mut C1 (mst m) (locOf ρ L) b := by
    rintro j hne hj b hb (hx | h)
    · exact (hs1.out j b hj hb).1 hx
    · exact fit_fz hs1 hc.fit j hne hj b hb h
  have hm0 : ∀ b, C1.M0 b → ∃ p ∈ m, ∃ j, ρ p.1 = some j ∧ J.contains j = true ∧ (st.mem j).isSome = true ∧ (L j).has b := by
    rintro b ⟨id, hid, hl⟩
    obtain ⟨b', hb'⟩ := Option.isSome_iff_exists.1 hid
    obtain ⟨j, h1, h2, h3⟩ := fit_src hc.fit hb' hl
    obtain ⟨bj, hbj⟩ := Option.isSome_iff_exists.1 h2
    exact ⟨_, look_mem hb', j, h1, (honly j bj hbj).1, by rw [(honly j bj hbj).2]; rfl, h3⟩
  have hsm : SimL C1 (mst m) (locOf ρ L) noAct C1.w0 := by
    refine ⟨rfl, rfl, fun t => .dead _, fun i b' hb' => ⟨?_, fit_repB hs1 hc.fit (by intro b hb; rw [show Mut ⟨C.P, X', fun _ => True, w, fun _ => none⟩ (st.only J) L = Mut C st L from hmutE]; exact hMm b hb) hfz hb'⟩, fun i j b hi hj hli hlj => ?_, fun i b hi hl => ?_, hs1.old, rfl, rfl, rfl, Nat.le_refl _, fun _ _ _ => rfl, fun i b hp => ⟨Nat.zero_le _, ?_⟩, fun i b hp hi => ?_⟩
    · have : look m i = some b' := hb'
      simp [mkSt, this]
    · obtain ⟨bi, hbi⟩ := Option.isSome_iff_exists.1 hi
      obtain ⟨bj, hbj⟩ := Option.isSome_iff_exists.1 hj
      obtain ⟨p, hp0, hp1, hp2⟩ := fit_src hc.fit hbi hli
      obtain ⟨q, hq0, hq1, hq2⟩ := fit_src hc.fit hbj hlj
      have := hs1.inj p q b hp1 hq1 hp2 hq2
      subst this
      exact hc.fit.inj _ (look_mem hbi) _ (look_mem hbj) p hp0 hq0
    · obtain ⟨bi, hbi⟩ := Option.isSome_iff_exists.1 hi
      obtain ⟨p, _, hp1, hp2⟩ := fit_src hc.fit hbi hl
      have := hs1.out p b hp1 hp2
      exact ⟨this.1, this.2.1, .inl ⟨i, hi, hl⟩⟩
    · simp only [C1] at hp
      split at hp
      · rename_i h
        simp only [Bool.and_eq_true, pers] at h
        exact Nat.lt_of_succ_le (Nat.le_of_ble_eq_true h.1.2)
      · cases hp
    · simp only [C1] at hp
      split at hp
      · exact hp
      · cases hp
  obtain ⟨hl, hg⟩ := le3s_get hargs
  refine (hf.2 C1 (locOf ρ L) vals rfl (fun id b hp => ?_) hsm (by omega) fun i hi => ?_).mono ?_
  · simp only [C1] at hp
    split at hp
    · rename_i h
      simp only [Bool.and_eq_true, pers] at h
      exact Nat.le_of_ble_eq_true h.1.1
    · cases hp
  · have hM1 : Mut ⟨C.P, X', fun _ => True, w, fun _ => none⟩ (st.only J) L = Mut C st L := hmutE
    refine fit_rep2 hs1 hc.fit (fun i => rfl) (by intro b hb; rw [hM1]; exact hMm b hb) hfz (hg i (by omega) hi) ?_
    rw [hM1]
    exact hsame (hrep i (by omega))
  rintro e w' ⟨v, L2, rfl, hs2, hr2⟩
  let L3 : Nat → Loc := fun i => match fnd m' ν i with | some p => ⟨(L2 p.1).blk, if pers p.1 then (L i).cap else (L2 p.1).cap, (L2 p.1).own⟩ | none => L i
  have hL3 : ∀ {i p}, fnd m' ν i = some p → L3 i = ⟨(L2 p.1).blk, if pers p.1 then (L i).cap else (L2 p.1).cap, (L2 p.1).own⟩ := fun {i p} h => by simp only [L3, h]
  have hL3n : ∀ {i}, fnd m' ν i = none → L3 i = L i := fun {i} h => by simp only [L3, h]
  have hfnd : ∀ p ∈ m', fnd m' ν (ν p.1) = some p := fun p hp => by
    cases h : fnd m' ν (ν p.1) with
    | none => exact absurd rfl (fnd_none h p hp)
    | some q =>
      obtain ⟨hq, hν⟩ := fnd_mem h
      have := hc.inj q hq p hp hν
      have e1 := hc.keys q hq
      have e2 := hc.keys p hp
      rw [this, e2] at e1
      have : q = p := by cases q; cases p; simp_all
      rw [this]
  have hL3h : ∀ {i p}, fnd m' ν i = some p → ∀ {b}, (L3 i).has b ↔ (L2 p.1).has b := fun {i p} h {b} => by rw [hL3 h]; exact like_has rfl rfl
  have hpin : ∀ p ∈ m', pers p.1 = true → ∃ g c, st.mem (ν p.1) = some c ∧ c.alike p.2 ∧ (L (ν p.1)).blk = some g ∧ (L2 p.1).blk = some g ∧ J.contains (ν p.1) = true := fun p hp hpp => by
    obtain ⟨hρ, c, hlk, hal, hnr⟩ := hc.old p hp hpp
    have hm := hc.fit.hms _ (look_mem hlk)
    unfold leM at hm
    rw [show ρ (p.1, c).1 = some (ν p.1) from hρ] at hm
    obtain ⟨b, hb, hle⟩ := hm
    obtain ⟨hJ, hb'⟩ := honly _ _ hb
    have fin : ∀ g, (L (ν p.1)).blk = some g → b.alike c → ∃ g c, st.mem (ν p.1) = some c ∧ c.alike p.2 ∧ (L (ν p.1)).blk = some g ∧ (L2 p.1).blk = some g ∧ J.contains (ν p.1) = true := fun g hg hbc => by
      have hpg : C1.pin p.1 = some g := by
        simp only [C1, hpp, hlk, Option.isSome_some, Bool.and_self, if_true]
        show (locOf ρ L p.1).blk = some g
        unfold locOf
        rw [hρ]; exact hg
      refine ⟨g, b, hb', ?_, hg, hs2.pin p.1 g hpg (by show (look m' p.1).isSome = true; rw [hc.keys p hp]; rfl), hJ⟩
      generalize p.2 = d at hal
      cases b <;> cases c <;> cases d <;> first | trivial | exact hal.elim | exact hbc.elim | exact (hbc.trans hal) | exact absurd rfl (hnr _ _ _)
    cases b with
    | row => cases c with
      | row => exact absurd rfl (hnr _ _ _)
      | _ => exact hle.elim
    | obj od => cases c with
      | obj od' =>
        obtain ⟨g, _, hg, _⟩ := (hs.mem _ _ hb').2
        have e : od = od' := hle
        exact fin g hg (by rw [e]; exact rfl)
      | _ => exact hle.elim
    | box ty' cs' => cases c with
      | box ty cs =>
        obtain ⟨g, _, hg, _⟩ := (hs.mem _ _ hb').2
        exact fin g hg trivial
      | _ => exact hle.elim
  have hmemb : ∀ i b', (st.back J m' ν).mem i = some b' → (∃ p, fnd m' ν i = some p ∧ b' = p.2.ren ν) ∨ (fnd m' ν i = none ∧ J.contains i = false ∧ st.mem i = some b') := fun i b' h => by
    simp only [St.back] at h
    split at h
    · rename_i p hp; cases h; exact .inl ⟨p, hp, rfl⟩
    · rename_i hn
      split at h
      · cases h
      · rename_i hJ; exact .inr ⟨hn, by simpa using hJ, h⟩
  have hM3 : ∀ b, Mut C (st.back J m' ν) L3 b → Mut C1 (mst m') L2 b := by
    rintro b (hx | ⟨i, hi, hl⟩)
    · exact .inl (.inl hx)
    · obtain ⟨b', hb'⟩ := Option.isSome_iff_exists.1 hi
      rcases hmemb i b' hb' with ⟨p, hp, _⟩ | ⟨hn, hJ, hm⟩
      · rw [hL3 hp] at hl
        exact .inr ⟨p.1, by show (look m' p.1).isSome = true; rw [hc.keys p (fnd_mem hp).1]; rfl, hl⟩
      · rw [hL3n hn] at hl
        exact .inl (.inr ⟨i, hJ, by rw [hm]; rfl, hl⟩)
  have hren1 : ∀ {x : A} {u : Value}, RepA (mst m') L2 w' (Mut C1 (mst m') L2) x u → RepA (st.back J m' ν) L3 w' (Mut C (st.back J m' ν) L3) (ren1 ν x) u ∨ x.single = false := fun {x u} h => by
    have hlk : ∀ i, (mst m').used i = true → ∃ b, look m' i = some b ∧ fnd m' ν (ν i) = some (i, b) := fun i hi => by
      obtain ⟨b, hb⟩ := Option.isSome_iff_exists.1 (show (look m' i).isSome = true from hi)
      exact ⟨b, hb, hfnd _ (look_mem hb)⟩
    cases h with
    | t x u h => exact .inl (.t _ _ (h.ext (Ext.refl _ _) (fun b _ => hM3 b)))
    | agg => exact .inr rfl
    | tup => exact .inr rfl
    | dead => exact .inr rfl
    | fel cells b off c hb hm hcc hr => exact .inl (.fel cells b off c hb (fun h => hm (hM3 b h)) hcc fun j hj => (hr j hj).ext (Ext.refl _ _) (fun b _ => hM3 b))
    | ref i u h1 hus hq =>
      obtain ⟨b, hb, hfd⟩ := hlk i hus
      refine .inl (.ref _ _ h1 (by simp [St.back, hfd]) fun e k xs hm => ?_)
      simp only [St.back, hfd, Option.some.injEq] at hm
      cases b with
      | box ty cs => cases hm
      | obj => cases hm
      | row e' k' xs' =>
        have : xs' = xs := by cases hm; rfl
        subst this
        have hnp : pers i = false := by
          cases hp : pers i with
          | false => rfl
          | true => obtain ⟨_, c, _, hal, hnr⟩ := hc.old _ (look_mem hb) hp; cases c <;> first | exact hal.elim | exact absurd rfl (hnr _ _ _)
        rw [hL3 hfd, hq _ _ _ hb]
        simp [Loc.slice, hnp]
    | ptr i o u h1 hus hq =>
      obtain ⟨b, hb, hfd⟩ := hlk i hus
      refine .inl (.ptr _ _ _ h1 (by simp [St.back, hfd]) fun ty cs hm => ?_)
      simp only [St.back, hfd, Option.some.injEq] at hm
      cases b with
      | row => cases hm
      | obj => cases hm
      | box ty' cs' => rw [hL3 hfd, hq _ _ hb]; rfl
    | rptr i p q u h1 hus hq =>
      obtain ⟨b, hb, hfd⟩ := hlk i hus
      refine .inl (.rptr _ _ _ _ h1 (by simp [St.back, hfd]) fun e k xs hm => ?_)
      simp only [St.back, hfd, Option.some.injEq] at hm
      cases b with
      | box ty cs => cases hm
      | obj => cases hm
      | row e' k' xs' =>
        have : k' = k := by cases hm; rfl
        subst this
        rw [hL3 hfd, hq _ _ _ hb]; rfl
    | ob i u h1 hus hq =>
      obtain ⟨b, hb, hfd⟩ := hlk i hus
      refine .inl (.ob _ _ h1 (by simp [St.back, hfd]) fun od hm => ?_)
      simp only [St.back, hfd, Option.some.injEq] at hm
      cases b with
      | box ty cs => cases hm
      | row => cases hm
      | obj od' =>
        have : od' = od := by cases hm; rfl
        subst this
        rw [hL3 hfd, hq _ hb]; rfl
  have hrens : ∀ (x : A), x.single = true → (ren1 ν x).single = true := fun x h => by cases x <;> first | exact h | rfl
  have hren1' : ∀ {x : A} {u : Value}, x.single = true → RepA (mst m') L2 w' (Mut C1 (mst m') L2) x u → RepA (st.back J m' ν) L3 w' (Mut C (st.back J m' ν) L3) (ren1 ν x) u := fun {x u} hx h => by
    rcases hren1 h with h | h
    · exact h
    · rw [hx] at h; cases h
  have hren2 : ∀ {x : A} {u : Value}, RepA (mst m') L2 w' (Mut C1 (mst m') L2) x u → (∀ cs, x ≠ .tup cs) → RepA (st.back J m' ν) L3 w' (Mut C (st.back J m' ν) L3) (ren2 ν x) u := fun {x u} h hx => by
    cases x with
    | agg cs =>
      cases h with
      | agg _ vs hsz h1 hr =>
        refine .agg _ vs (by simpa using hsz) (fun i hi => ?_) (fun i hi => ?_)
        · rw [List.getElem_map]; exact hrens _ (h1 i (by simpa using hi))
        · simp only [List.getElem_map]; exact hren1' (h1 i (by simpa using hi)) (hr i (by simpa using hi))
    | tup cs => exact absurd rfl (hx cs)
    | dead => exact .dead _
    | _ => exact hren1' rfl h
  have hsome : ∀ p ∈ m', ((mst m').mem p.1).isSome = true := fun p hp => by show (look m' p.1).isSome = true; rw [hc.keys p hp]; rfl
  have hsim : SimL C (st.back J m' ν) L3 a w' := by
    refine hs.next0 rfl hs.hn hs.hd hs2.os hs2.tape hs2.output hs2.size (fun b hb hm => hs2.block b hb fun hM0 => ?_) (fun i hi => ?_) (fun i hi b' hb' => ?_) (fun i b hi hl => ?_) (fun i j b hi hj hli hlj => ?_) (fun i hi hf => ?_) (fun i b' hb' => ?_) (fun t => .inl ⟨rfl, rfl⟩)
    · obtain ⟨_, _, j, _, _, h1, h2⟩ := hm0 b hM0
      exact hm ⟨j, h1, h2⟩
    · simp only [St.back]; split <;> first | rfl | exact hi
    · rcases hmemb i b' hb' with ⟨p, hp, rfl⟩ | ⟨hn, hJ, hm⟩
      · obtain ⟨hpm, hν⟩ := fnd_mem hp
        cases hpp : pers p.1 with
        | false =>
          have := (hc.new p hpm hpp).1
          rw [hν, hi] at this; cases this
        | true =>
          obtain ⟨g, c, h1, h1', h2, h3, _⟩ := hpin p hpm hpp
          rw [hν] at h1 h2
          refine ⟨_, h1, alike_ren h1', ?_⟩
          rw [hL3 hp, hpp]
          exact ⟨by rw [h2]; exact h3, rfl⟩
      · exact ⟨b', hm, b'.alike_refl, .of (hL3n hn)⟩
    · obtain ⟨b', hb'⟩ := Option.isSome_iff_exists.1 hi
      rcases hmemb i b' hb' with ⟨p, hp, rfl⟩ | ⟨hn, hJ, hm⟩
      · obtain ⟨hpm, hν⟩ := fnd_mem hp
        rw [hL3h hp] at hl
        have ho := hs2.out p.1 b (hsome p hpm) hl
        rcases ho.2.2 with hM0 | hge
        · obtain ⟨q, hq, j, hj1, hj2, hj3, hj4⟩ := hm0 b hM0
          exact .inr ⟨j, hj3, hj4⟩
        · exact .inl ⟨hge, ho.2.1⟩
      · rw [hL3n hn] at hl
        exact .inr ⟨i, by rw [hm]; rfl, hl⟩
    · have mixed : ∀ i j, (∃ p ∈ m', fnd m' ν i = some p ∧ (L2 p.1).has b) → J.contains j = false → (st.mem j).isSome = true → (L j).has b → False := by
        rintro i j ⟨p, hpm, hp, hl⟩ hJ hm hlj
        rcases (hs2.out p.1 b (hsome p hpm) hl).2.2 with hM0 | hge
        · obtain ⟨q, hq, j', hj1, hj2, hj3, hj4⟩ := hm0 b hM0
          have := hs.inj j' j b hj3 hm hj4 hlj
          subst this
          rw [hj2] at hJ; cases hJ
        · have := (hs.out j b hm hlj).2.1
          have hge' : w.heap.size ≤ b := hge
          omega
      obtain ⟨bi, hbi⟩ := Option.isSome_iff_exists.1 hi
      obtain ⟨bj, hbj⟩ := Option.isSome_iff_exists.1 hj
      rcases hmemb i bi hbi with ⟨p, hp, rfl⟩ | ⟨hn, hJ, hm⟩
      · obtain ⟨hpm, hν⟩ := fnd_mem hp
        rw [hL3h hp] at hli
        rcases hmemb j bj hbj with ⟨q, hq, rfl⟩ | ⟨hn, hJ, hm⟩
        · obtain ⟨hqm, hqν⟩ := fnd_mem hq
          rw [hL3h hq] at hlj
          have := hs2.inj p.1 q.1 b (hsome p hpm) (hsome q hqm) hli hlj
          rw [← hν, ← hqν, this]
        · rw [hL3n hn] at hlj
          exact (mixed i j ⟨p, hpm, hp, hli⟩ hJ (by rw [hm]; rfl) hlj).elim
      · rw [hL3n hn] at hli
        rcases hmemb j bj hbj with ⟨q, hq, rfl⟩ | ⟨hn', hJ', hm'⟩
        · obtain ⟨hqm, hqν⟩ := fnd_mem hq
          rw [hL3h hq] at hlj
          exact (mixed j i ⟨q, hqm, hq, hlj⟩ hJ (by rw [hm]; rfl) hli).elim
        · rw [hL3n hn'] at hlj
          exact hs.inj i j b (by rw [hm]; rfl) (by rw [hm']; rfl) hli hlj
    · obtain ⟨b', hb'⟩ := Option.isSome_iff_exists.1 hi
      rcases hmemb i b' hb' with ⟨p, hp, rfl⟩ | ⟨hn, hJ, hm⟩
      · obtain ⟨hpm, hν⟩ := fnd_mem hp
        cases hpp : pers p.1 with
        | false => have := (hc.new p hpm hpp).2; rwa [hν] at this
        | true =>
          obtain ⟨g, c, h1, _⟩ := hpin p hpm hpp
          rw [hν] at h1
          have := (hs.mem i _ h1).1
          rw [hf] at this; cases this
      · have := (hs.mem i b' hm).1
        rw [hf] at this; cases this
    · rcases hmemb i b' hb' with ⟨p, hp, rfl⟩ | ⟨hn, hJ, hm⟩
      · obtain ⟨hpm, hν⟩ := fnd_mem hp
        refine ⟨by simp [St.back, hp], .inr ?_⟩
        have hrep := (hs2.mem p.1 p.2 (hc.keys p hpm)).2
        obtain ⟨id, blk⟩ := p
        cases blk with
        | obj od =>
          obtain ⟨g, o, hg, hw, hr⟩ := hrep
          exact ⟨g, o, by rw [hL3 hp]; exact hg, hw, by rw [hL3 hp]; exact hr.ext (Ext.refl _ _) (fun b _ => hM3 b) rfl (fun _ _ => rfl)⟩
        | box ty cells =>
          obtain ⟨g, cs, hg, hw, hsz, hr⟩ := hrep
          refine ⟨g, cs, by rw [hL3 hp]; exact hg, hw, by simpa using hsz, fun q hq => ?_⟩
          have hq' : q < cells.length := by simpa using hq
          simp only [List.getElem_map]
          exact ⟨hrens _ (hr q hq').1, hren1' (hr q hq').1 (hr q hq').2⟩
        | row e k xs =>
          have hnp : pers id = false := by
            cases hpp : pers id with
            | false => rfl
            | true => obtain ⟨_, c, _, hal, hnr⟩ := hc.old _ hpm hpp; cases c <;> first | exact hal.elim | exact absurd rfl (hnr _ _ _)
          have hLi : L3 i = L2 id := by rw [hL3 hp]; simp only [hnp]; cases hX : L2 id; rfl
          obtain ⟨h0, hk, hq⟩ := hrep
          refine ⟨h0, hk, ?_⟩
          rcases hq with ⟨hx, hn⟩ | ⟨g, cur, hg, hw, hle, hcm, hsz, hcc⟩
          · exact .inl ⟨hx, by rw [hLi]; exact hn⟩
          · refine .inr ⟨g, cur, by rw [hLi]; exact hg, hw, by rw [hLi]; exact hle, by rw [hLi]; exact hcm, by rw [hLi]; exact hsz, fun p hp' q hq => ?_⟩
            obtain ⟨c, hc1, hc2⟩ := hcc p hp' q hq
            exact ⟨c, hc1, hc2.ext (Ext.refl _ _) (fun b _ => hM3 b)⟩
      · refine ⟨by simp [St.back, hn]; exact (hs.mem i b' hm).1, .inl ⟨hm, hL3n hn, fun b hb => hs2.block b (hs.out i b (by rw [hm]; rfl) hb).2.1 fun hM0 => ?_⟩⟩
        obtain ⟨_, _, j, _, hJj, h1, h2⟩ := hm0 b hM0
        have := hs.inj j i b h1 (by rw [hm]; rfl) h2 hb
        subst this
        rw [hJ] at hJj; cases hJj
  refine ⟨v, L3, rfl, hsim, ?_⟩
  cases r with
  | tup cs =>
    cases hr2 with
    | tup _ vs hsz hr =>
      refine .tup _ vs (by simpa using hsz) fun i hi => ?_
      simp only [List.getElem_map]
      have hi' : i < cs.length := by simpa using hi
      refine hren2 (hr i hi') fun ds he => ?_
      have := List.all_eq_true.1 htup _ (List.getElem_mem hi')
      rw [he] at this
      cases this
  | _ => exact hren2 hr2 (fun cs h => by cases h)
end Go.Proofs.Ytmffhifkdbfbfaa
namespace Go.Proofs.Ytmffhifkdbfbfaa
open Go.RowKit
set_option linter.unusedVariables false
variable {C : Ctx} {st st' st2 : St} {L L' : Nat → Loc} {a : Act} {w : World} {P : Program}
def ids1 : A → List Nat
  | .ref id => [id]
  | .ptr id _ => [id]
  | .rptr id _ _ => [id]
  | .ob id => [id]
  | _ => []
def ids2 : A → List Nat
  | .agg cs => cs.flatMap ids1
  | a => ids1 a
def ids3 : A → List Nat
  | .tup cs => cs.flatMap ids2
  | a => ids2 a
def opL : Op → List Operand
  | .move x | .assign x | .box _ x | .load _ x | .nilCheck x | .unOp _ _ x | .convert _ _ x | .fieldAddr _ x _ | .field _ x _ | .extract x _ => [x]
  | .pick c a b => [c, a, b]
  | .alloc _ => []
  | .build _ ps | .buildSlice _ _ ps => ps.toList.map (·.2)
  | .store _ a v | .binOp _ _ a v _ | .makeSlice _ a v | .indexAddr _ a v | .index _ a v => [a, v]
  | .slice _ x l h m => x :: (l.toList ++ (h.toList ++ m.toList))
  | .call c => (match c.callee with | .value f => [f] | .invoke r _ => [r] | .builtin _ => []) ++ c.args.toList
  | op => op.operands.toList
theorem opL_eq (op : Op) : opL op = op.operands.toList := by
  cases op <;> first
    | rfl
    | (simp [opL, Op.operands]; done)
    | (rename_i c; simp only [opL, Op.operands, Call.operands]; cases c.callee <;> simp)
def cellIds (st : St) (i : Nat) : List Nat := match st.mem i with | some (.box _ cells) => cells.flatMap ids1 | _ => []
def reach (st : St) (evs : List A) : List Nat :=
  evs.flatMap ids3 ++ ((evs.flatMap ids3).flatMap (cellIds st) ++ ((evs.flatMap ids3).flatMap (cellIds st)).flatMap (cellIds st))
def ptr1 : A → Bool
  | .ptr _ _ => true
  | .ob _ => true
  | _ => false
def ptr2 : A → Bool
  | .agg cs => cs.any ptr1
  | x => ptr1 x
def hasPtr (evs : List A) : Bool := evs.any ptr2
def freshIds : Option Nat → List Nat
  | some d => d :: (List.range 24).map fun i => 1000000 + 1000 * d + i
  | none => []
def CallPure (P : Program) (f : FuncId) (d : Option Nat) (as evs : List A) (st : St) (K : St → Prop) : Prop :=
  ∃ r, FnP P f as r ∧ as.all flat2 = true ∧ ((scal3 r = true ∧ K (st.put d r)) ∨ K ((st.frzs (evs.flatMap refs2)).put d r))
def CallIO (P : Program) (f : FuncId) (d : Option Nat) (evs : List A) (st : St) (K : St → Prop) : Prop :=
  ∃ cargs m r m' ρ ν, FnIO P f cargs m r m' ∧ tupOk r = true ∧ (hasPtr evs = true ∨ evs.flatMap ids3 = []) ∧ CallOk st (reach st evs) ρ ν m m' ∧ (∀ p ∈ m', pers p.1 = false → ν p.1 ∈ freshIds d) ∧
    le3s ρ (st.only (reach st evs)) m evs cargs ∧ K ((st.back (reach st evs) m' ν).put d (ren3 ν r))
def CallAny (P : Program) (f : FuncId) (d : Option Nat) (as evs : List A) (st : St) (K : St → Prop) : Prop := CallPure P f d as evs st K ∨ CallIO P f d evs st K
def stepW0 (P : Program) (o : Oper) (st : St) (K : St → Prop) : Prop :=
  match o.op with
  | .move x | .assign x => K (st.put o.dst (st.ev x))
  | .pick c a b => ∃ t, st.ev c = .v (.bool t) ∧ K (st.put o.dst (pickA t (st.ev a) (st.ev b)))
  | .alloc ty => ∃ d ti, o.dst = some d ∧ tinfo P ty = some ti ∧ st.used d = false ∧ K ((st.new d (.box ty (ti.zero.map .v))).put o.dst (.ptr d 0))
  | .box ty x => ∃ d cs, o.dst = some d ∧ cellsOf (st.ev x) = some cs ∧ st.used d = false ∧ K ((st.new d (.box ty cs)).put o.dst (.ptr d 0))
  | .build t parts => ∃ ti cs, tinfo P t = some ti ∧ tkind P t = .strct ∧ fillA ti.fs (ti.zero.map .v) (parts.toList.map fun (i, x) => (i, st.ev x)) = some cs ∧ K (st.put o.dst (.agg cs))
  | .buildSlice t len parts => ∃ d ti e te xs, o.dst = some d ∧ tinfo P t = some ti ∧ ti.elem = some e ∧ tinfo P e = some te ∧ st.used d = false ∧
      0 < te.size ∧ parts.size = len ∧ len * te.size ≤ 16777216 ∧
      partsT te.size 0 (parts.toList.map fun (i, x) => (i, (st.frzs (parts.toList.flatMap fun (_, x) => refs2 (st.ev x))).ev x)) = some xs ∧
      K (((st.frzs (parts.toList.flatMap fun (_, x) => refs2 (st.ev x))).new d (.row e te.size xs)).put o.dst (.ref d))
  | .load t a => ∃ ti x, tinfo P t = some ti ∧ peek st (st.ev a) ti = some x ∧ K (st.put o.dst x)
  | .store t a x => ∃ ti cs, tinfo P t = some ti ∧ cellsOf (st.ev x) = some cs ∧ cs.length = ti.size ∧
      ((∃ id off ty cells, st.ev a = .ptr id off ∧ st.mem id = some (.box ty cells) ∧ off + cs.length ≤ cells.length ∧
          K ((st.setm id (.box ty (cells.take off ++ cs ++ cells.drop (off + cs.length)))).put o.dst .dead)) ∨
       (∃ id i j e k xs el l, st.ev a = .rptr id i j ∧ st.mem id = some (.row e k xs) ∧ xs[i]? = some el ∧ cellsT cs = some l ∧ j + l.length ≤ el.length ∧
          K ((st.setm id (.row e k (xs.set i (el.take j ++ l ++ el.drop (j + l.length))))).put o.dst .dead)))
  | .nilCheck x => isPtr st (st.ev x) = true ∧ K (st.put o.dst (st.ev x))
  | .binOp op ty x y _ => ∃ z, binA P st op ty (st.ev x) (st.ev y) = some z ∧ z.oneCell' = true ∧ K (st.put o.dst (.v z))
  | .unOp op _ x => ∃ y z, st.ev x = .v y ∧ unF op y = some z ∧ z.oneCell' = true ∧ K (st.put o.dst (.v z))
  | .convert src dst x => ∃ z, (tinfo P src).isSome = true ∧ convA P src dst (st.ev x) = some z ∧ K (st.put o.dst z)
  | .fieldAddr s x f => ∃ ti z, tinfo P s = some ti ∧ tkind P s = .strct ∧ isPtr st (st.ev x) = true ∧ fieldA ti (st.ev x) f = some z ∧ K (st.put o.dst z)
  | .field s x f => ∃ ti z, tinfo P s = some ti ∧ tkind P s = .strct ∧ subA ti (st.ev x) f = some z ∧ K (st.put o.dst z)
  | .indexAddr t x i => ∃ (ti : TI) (e : TypeId) (te : TI) (k' : Nat) (xs : List (List T)) (k : IntKind) (n : Nat) (el : List T), tinfo P t = some ti ∧ ti.elem = some e ∧ tinfo P e = some te ∧ asList st (st.ev x) = some (k', xs) ∧ st.ev i = .v (.int k (n : Int)) ∧ xs[n]? = some el ∧ k' = te.size ∧ K (st.put o.dst (match st.ev x with | .ref id => .rptr id n 0 | _ => .fel el))
  | .index t x i => ∃ (s : ByteArray) (k : IntKind) (n : Nat) (b : UInt8), tkind P t = .str ∧ st.ev x = .v (.string s) ∧ st.ev i = .v (.int k (n : Int)) ∧ s[n]? = some b ∧ K (st.put o.dst (.v (.int .u8 b.toNat)))
  | .extract x i => ∃ cs y, st.ev x = .tup cs ∧ cs[i]? = some y ∧ K (st.put o.dst y)
  | .call c =>
    match c.callee, c.args.toList, c.argTypes.toList with
    | .builtin .len, [x], ty :: _ => ∃ z, lenA P st ty (st.ev x) = some z ∧ K (st.put o.dst (.v z))
    | .builtin .append, [x, y], [t, t'] => ∃ d ti e te k'' ys, t = t' ∧ o.dst = some d ∧ tinfo P t = some ti ∧ ti.elem = some e ∧ tinfo P e = some te ∧ 0 < te.size ∧ st.used d = false ∧
      asList st (st.ev y) = some (k'', ys) ∧ (ys = [] ∨ k'' = te.size) ∧
      ((st.ev x = .v (.slice none 0 0) ∧ ys.length * te.bytes ≤ 140737488355328 ∧ ys.length ≤ maxLen ∧ K ((st.new d (.row e te.size ys)).put o.dst (.ref d))) ∨
       (∃ id k' xs, st.ev x = .ref id ∧ st.mem id = some (.row e k' xs) ∧ k' = te.size ∧ (xs.length + ys.length) * te.bytes ≤ 140737488355328 ∧ xs.length + ys.length ≤ maxLen ∧ K (((st.del id).new d (.row e te.size (xs ++ ys))).put o.dst (.ref d))))
    | .value (.func f), args, _ => CallAny P f o.dst (args.map fun x => arg2 st (st.ev x)) (args.map st.ev) st K
    | _, _, _ => False
  | _ => False
def Quiet (P : Program) (o : Oper) (xs : List A) (x : A) : Prop :=
  ∀ (w : World) (M : Nat → Prop) (ρ : Operand → Value), (∀ b, M b → b < w.heap.size) → xs.length = (opL o.op).length → (∀ i (hi : i < xs.length) (hi' : i < (opL o.op).length), RepF w M (xs[i]) (ρ ((opL o.op)[i]))) → ∃ v w', (execOp ρ o).run P w = .ok (.value v) w' ∧ Below w.heap.size w w' ∧ RepF w' M x v
def Makes (P : Program) (o : Oper) (xs : List A) (e : TypeId) (k : Nat) (ys : List (List T)) : Prop :=
  0 < k ∧ ∀ (w : World) (M : Nat → Prop) (ρ : Operand → Value), xs.length = (opL o.op).length → (∀ i (hi : i < xs.length) (hi' : i < (opL o.op).length), RepF w M (xs[i]) (ρ ((opL o.op)[i]))) →
    ∃ (cur : Array Value) (cap : Nat) (w1 : World), w1.heap = w.heap ∧ w1.os = w.os ∧ w1.tape = w.tape ∧ w1.output = w.output ∧ ys.length ≤ cap ∧ cap ≤ maxLen ∧ cur.size = cap * k ∧ (∀ (i : Nat) x, ys[i]? = some x → x.length = k) ∧
      (∀ (p : Nat) x, ys[p]? = some x → ∀ (j : Nat) (t : T), x[j]? = some t → ∃ c, cur[p * k + j]? = some c ∧ RepT w M t c) ∧
      (execOp ρ o).run P w = .ok (.value (.slice (some ⟨w.heap.size, 0, none⟩) ys.length cap)) (w1.alloc (.cells cur e))
def isStr : A → Bool
  | .t (.v (.string _)) => true
  | _ => false
def makesRow (o : Oper) (st : St) : Bool :=
  match o.op with
  | .makeSlice _ _ _ => true
  | .convert _ _ x => isStr (st.ev x)
  | .call c => (match c.callee, c.args.toList with | .builtin .append, _ :: _ => true | _, _ => false)
  | _ => false
def argsOf (o : Oper) (st : St) : List A := (opL o.op).map fun x => arg2 st (st.ev x)
def noRefs (o : Oper) (st : St) : Bool := ((opL o.op).flatMap fun x => refs2 (st.ev x)).isEmpty
def Other (P : Program) (o : Oper) (st : St) (K : St → Prop) : Prop :=
  (argsOf o st).all flat2 = true ∧
  ((∃ x, Quiet P o (argsOf o st) x ∧ (scal3 x = true ∨ noRefs o st = true) ∧ K (st.put o.dst x)) ∨
   (∃ d e k ys, o.dst = some d ∧ st.used d = false ∧ Makes P o (argsOf o st) e k ys ∧ (noRefs o st = true ∧ makesRow o st = true) ∧ K ((st.new d (.row e k ys)).put o.dst (.ref d))))
def own1 : A → List Nat
  | .ref id => [id]
  | .ob id => [id]
  | _ => []
def nameOf (b : Blk) (id : Nat) : A := match b with | .obj _ => .ob id | _ => .ref id
theorem own1_name (b : Blk) (id : Nat) : own1 (nameOf b id) = [id] := by cases b <;> rfl
def OwnMove (P : Program) (o : Oper) (i : Nat) (b : Blk) (xs : List A) (b' : Blk) : Prop :=
  ∀ (st : St) (id d : Nat) (K : St → Prop), o.dst = some d → ((opL o.op).map st.ev)[i]? = some (.ref id) → ((opL o.op).map st.ev).set i .dead = xs → st.mem id = some b → st.used d = false →
    K (((st.del id).new d b').put o.dst (.ref d)) → Opk P o st K
def OwnSet (P : Program) (o : Oper) (i : Nat) (b : Blk) (xs : List A) (b' : Blk) (r : A) : Prop :=
  ∀ (st : St) (id : Nat) (K : St → Prop), ((opL o.op).map st.ev)[i]? = some (nameOf b id) → ((opL o.op).map st.ev).set i .dead = xs → st.mem id = some b → K ((st.setm id b').put o.dst r) → Opk P o st K
def NewObj (P : Program) (o : Oper) (xs : List A) (od : Od) : Prop :=
  ∀ (w : World) (M : Nat → Prop) (ρ : Operand → Value), (∀ b, M b → b < w.heap.size) → xs.length = (opL o.op).length → (∀ i (hi : i < xs.length) (hi' : i < (opL o.op).length), RepF w M (xs[i]) (ρ ((opL o.op)[i]))) →
    ∃ (ob : Obj) (w1 : World), w1.heap = w.heap ∧ w1.os = w.os ∧ w1.tape = w.tape ∧ w1.output = w.output ∧ RepO w M (fun _ => False) w.heap.size od ob ∧ od.plain = true ∧ (execOp ρ o).run P w = .ok (.value ((Loc.at_ w.heap.size 0).ob od)) (w1.alloc ob)
def movesRow (o : Oper) (i : Nat) : Bool :=
  match o.op with
  | .slice _ _ _ _ _ => true
  | .call c => (match c.callee with | .builtin .append => Nat.beq i 0 | _ => false)
  | _ => false
def setsRow (o : Oper) : Bool :=
  match o.op with
  | .call c => (match c.callee with | .builtin .copy => true | .builtin .clear => true | .builtin .delete => true | _ => false)
  | .next _ _ => true
  | .mapUpdate _ _ _ _ => true
  | _ => false
def newsObj (o : Oper) : Bool :=
  match o.op with
  | .range _ _ => true
  | .makeMap _ _ => true
  | _ => false
def Owns (P : Program) (o : Oper) (st : St) (K : St → Prop) : Prop :=
  (∃ i b xs b' id d, movesRow o i = true ∧ o.dst = some d ∧ ((opL o.op).map st.ev)[i]? = some (.ref id) ∧ ((opL o.op).map st.ev).set i .dead = xs ∧ st.mem id = some b ∧ st.used d = false ∧ OwnMove P o i b xs b' ∧ K (((st.del id).new d b').put o.dst (.ref d))) ∨
  (∃ i b xs b' r id, setsRow o = true ∧ ((opL o.op).map st.ev)[i]? = some (nameOf b id) ∧ ((opL o.op).map st.ev).set i .dead = xs ∧ st.mem id = some b ∧ st.used id = true ∧ OwnSet P o i b xs b' r ∧ K ((st.setm id b').put o.dst r)) ∨
  (∃ od d, newsObj o = true ∧ o.dst = some d ∧ st.used d = false ∧ noRefs o st = true ∧ (argsOf o st).all flat2 = true ∧ NewObj P o (argsOf o st) od ∧ K ((st.new d (.obj od)).put o.dst (.ob d)))
def CallV (P : Program) (o : Oper) (st : St) (K : St → Prop) : Prop :=
  ∃ c x t r, o.op = .call c ∧ c.callee = .value x ∧ st.ev x = .t t ∧ FnC P t (c.args.toList.map fun y => arg2 st (st.ev y)) r ∧ (c.args.toList.map fun y => arg2 st (st.ev y)).all flat2 = true ∧
    (scal3 r = true ∨ (c.args.toList.map st.ev).flatMap refs2 = []) ∧ K (st.put o.dst r)
def stepW (P : Program) (o : Oper) (st : St) (K : St → Prop) : Prop := stepW0 P o st K ∨ Other P o st K ∨ Owns P o st K ∨ CallV P o st K
def guardOf (ops : Array Oper) (st : St) (j : Nat) : A := match (ops[j]?).bind (·.dst) with | some d => st.env d | none => .dead
def runW (P : Program) (ops : Array Oper) : List Nat → St → (St → Prop) → Prop
  | [], st, K => K st
  | i :: rest, st, K =>
    match ops[i]? with
    | none => runW P ops rest st K
    | some o =>
      match o.guard with
      | none => ∃ ids, stepW P o (st.frzs ids) fun st' => runW P ops rest st' K
      | some (j, want) => (∃ b, guardOf ops st j = .v (.bool b) ∧ (b = want → ∃ ids, stepW P o (st.frzs ids) fun st' => runW P ops rest st' K) ∧ (b ≠ want → runW P ops rest (st.put o.dst (.tup [])) K)) ∨ (guardOf ops st j = .tup [] ∧ runW P ops rest (st.put o.dst (.tup [])) K)
end Go.Proofs.Ytmffhifkdbfbfaa
namespace Go.Proofs.Ytmffhifkdbfbfaa
open Go.RowKit
set_option linter.unusedVariables false
variable {C : Ctx} {st st' : St} {L L' : Nat → Loc} {a : Act} {w : World} {P : Program}
theorem op_append {o : Oper} {K : St → Prop} (x y : Operand) (t : TypeId) (ho : o.op = .call { callee := .builtin .append, args := #[x, y], argTypes := #[t, t] }) (d : Nat) (ti : TI) (e : TypeId) (te : TI) (k'' : Nat) (ys : List (List T))
    (hdst : o.dst = some d) (ht : tinfo P t = some ti) (he : ti.elem = some e) (hte : tinfo P e = some te) (hpos : 0 < te.size) (hu : st.used d = false) (hl : asList st (st.ev y) = some (k'', ys)) (hk : ys = [] ∨ k'' = te.size)
    (h : (st.ev x = .v (.slice none 0 0) ∧ ys.length * te.bytes ≤ 140737488355328 ∧ ys.length ≤ maxLen ∧ K ((st.new d (.row e te.size ys)).put o.dst (.ref d))) ∨
       (∃ id k' xs, st.ev x = .ref id ∧ st.mem id = some (.row e k' xs) ∧ k' = te.size ∧ (xs.length + ys.length) * te.bytes ≤ 140737488355328 ∧ xs.length + ys.length ≤ maxLen ∧ K (((st.del id).new d (.row e te.size (xs ++ ys))).put o.dst (.ref d)))) : Opk P o st K := by
  intro C a w hP ⟨L, hs⟩ hd next Q hn
  have hp : AppendParts P st t e te (st.ev y) ys := ⟨⟨ti, ht, he⟩, hte, hpos, ⟨k'', hl, hk⟩⟩
  have run : ∀ v u w', a.eval x = v → (Builtin.append_ #[t, t] o.type #[v, a.eval y]).run P w = .ok u w' → (execOp a.eval o).run P w = .ok (.value u) w' := fun v u w' hv hr => by
    unfold execOp
    simp only [ho, resolve, invoke, builtin, Sem.run_bind, Sem.run_pure, Result.andThen_ok, List.map_toArray, List.map_cons, List.map_nil, hv, hr]
  rcases h with ⟨hx, hb, hm, h⟩ | ⟨id, k', xs, hx, hmem, rfl, hb, hm, h⟩
  · have e1 := rep_val (hx ▸ ev_rep hs x)
    obtain ⟨u, w', hr, hsim⟩ := append_nil hs t o.type e te _ ys hp (ev_rep hs y) hb hm d hu o.dst hdst (hd d hdst)
    exact wp_value (run _ _ _ e1 hr) (hn _ _ _ (by simp [St.new]) h hsim)
  · have hr := ev_rep hs x
    rw [hx] at hr
    generalize hv : a.eval x = v at hr
    cases hr with
    | ref _ _ h1 hus hq =>
      obtain ⟨u, w', hr, hsim⟩ := append_ref hs t o.type e te _ ys hp (ev_rep hs y) id xs hmem hb hm d hu o.dst hdst (hd d hdst)
      exact wp_value (run _ _ _ (by rw [hv, hq _ _ _ hmem]) hr) (hn _ _ _ (by simp [St.new, St.del]) h hsim)
theorem repF_to {M : Nat → Prop} {x : A} {v : Value} (h : RepF w M x v) : RepA st L w M x v :=
  RepA.ext h (Ext.refl _ _) (fun _ _ h => h) (fun id hi => by simp at hi) (fun id hi => by simp at hi)
theorem repF_of {M : Nat → Prop} {x : A} {v : Value} (hf : flat2 x = true) (h : RepA st L w M x v) : RepF w M x v := by
  have one : ∀ {y : A} {v : Value}, flat1 y = true → RepA st L w M y v → RepF w M y v := fun {y v} hy h => by
    cases y <;> simp [flat1] at hy
    exact .t _ _ (rep_t h)
  cases x with
  | agg cs =>
    cases h with
    | agg _ vs hs h1 hr => exact .agg _ vs hs h1 fun i hi => one (by simp only [flat2, List.all_eq_true] at hf; exact hf _ (List.getElem_mem hi)) (hr i hi)
  | _ => exact one hf h
theorem scal_any {M M' : Nat → Prop} {x : A} {v : Value} (hf : scal3 x = true) (h : RepF w M x v) : RepF w M' x v := by
  have one : ∀ {y : A} {v : Value}, scal1 y = true → RepF w M y v → RepF w M' y v := fun {y v} hy h => by
    unfold scal1 at hy
    split at hy
    · have := rep_t h
      cases this with
      | v x h => exact .t _ _ (.v _ h)
    · cases hy
  have two : ∀ {y : A} {v : Value}, scal2 y = true → RepF w M y v → RepF w M' y v := fun {y v} hy h => by
    cases y with
    | agg cs =>
      cases h with
      | agg _ vs hs h1 hr => exact .agg _ vs hs h1 fun i hi => one (by simp only [scal2, List.all_eq_true] at hy; exact hy _ (List.getElem_mem hi)) (hr i hi)
    | _ => exact one hy h
  cases x with
  | tup cs =>
    cases h with
    | tup _ vs hs hr => exact .tup _ vs hs fun i hi => two (by simp only [scal3, List.all_eq_true] at hf; exact hf _ (List.getElem_mem hi)) (hr i hi)
  | _ => exact two hf h
theorem frz_mem (st : St) (id i : Nat) (b' : Blk) (h : (st.frz id).mem i = some b') : ∃ b, st.mem i = some b ∧ b.alike b' ∧ (i = id → ∀ e k xs, b ≠ .row e k xs) := by
  cases hm : st.mem id with
  | none =>
    have e : st.frz id = st := by unfold St.frz; rw [hm]
    rw [e] at h
    exact ⟨b', h, b'.alike_refl, fun e => by rw [e, hm] at h; cases h⟩
  | some blk =>
    cases blk with
    | obj od =>
      rw [frz_obj hm] at h
      exact ⟨b', h, b'.alike_refl, fun e => by rw [e, hm] at h; cases h; intro _ _ _ h; cases h⟩
    | box ty cs =>
      cases hc : cellsT cs with
      | none =>
        have e : st.frz id = st := by unfold St.frz; rw [hm]; simp only; rw [hc]
        rw [e] at h
        exact ⟨b', h, b'.alike_refl, fun e => by rw [e, hm] at h; cases h; intro _ _ _ h; cases h⟩
      | some ts =>
        rw [frz_box hm hc] at h
        simp only [St.sub] at h
        by_cases e : i = id
        · rw [if_pos e] at h; cases h
        · rw [if_neg e] at h
          obtain ⟨b, h1, rfl⟩ := Option.map_eq_some_iff.1 h
          exact ⟨b, h1, Blk.sub_alike _ _ _, fun h => absurd h e⟩
    | row e k xs =>
      rw [frz_row hm] at h
      simp only [St.sub] at h
      by_cases e : i = id
      · rw [if_pos e] at h; cases h
      · rw [if_neg e] at h
        obtain ⟨b, h1, rfl⟩ := Option.map_eq_some_iff.1 h
        exact ⟨b, h1, Blk.sub_alike _ _ _, fun h => absurd h e⟩
theorem alike_trans {a b c : Blk} (h : a.alike b) (h' : b.alike c) : a.alike c := by
  cases a <;> cases b <;> cases c <;> simp_all [Blk.alike]
theorem frzs_mem (ids : List Nat) : ∀ (st : St) (i : Nat) (b' : Blk), (st.frzs ids).mem i = some b' → ∃ b, st.mem i = some b ∧ b.alike b' ∧ (i ∈ ids → ∀ e k xs, b ≠ .row e k xs) := by
  induction ids with
  | nil => intro st i b' h; exact ⟨b', h, b'.alike_refl, fun h => by simp at h⟩
  | cons id ids ih =>
    intro st i b' h
    obtain ⟨c, hc, hal, hbox⟩ := ih (st.frz id) i b' h
    obtain ⟨b, hb, hal2, hbox2⟩ := frz_mem st id i c hc
    refine ⟨b, hb, alike_trans hal2 hal, fun hi => ?_⟩
    rcases List.mem_cons.1 hi with h1 | h1
    · exact hbox2 h1
    · have h3 := hbox h1
      intro e k xs he
      subst he
      cases c with
      | row e' k' xs' => exact h3 _ _ _ rfl
      | box => exact hal2.elim
      | obj => exact hal2.elim
theorem arg_rep (hs : SimL C st L a w) {M' : Nat → Prop} (hM : ∀ b, M' b → Mut C st L b) {x : A} (hx : ∀ id ∈ refs2 x, ∀ e k xs, st.mem id = some (.row e k xs) → ∀ b, (L id).has b → ¬ M' b) {v : Value} (h : RepA st L w (Mut C st L) x v) : RepA st L w M' (arg2 st x) v := by
  have one : ∀ {y : A} {v : Value}, (∀ id ∈ refs1 y, ∀ e k xs, st.mem id = some (.row e k xs) → ∀ b, (L id).has b → ¬ M' b) → RepA st L w (Mut C st L) y v → RepA st L w M' (arg1 st y) v := fun {y v} hy h => by
    have base : RepA st L w M' y v := h.ext (Ext.refl _ _) (fun b _ h => hM b h) (fun _ h => h) (shape_like _ _)
    cases y with
    | ref id =>
      unfold arg1
      dsimp only
      split
      · rename_i e k xs hm
        cases h with
        | ref _ _ h1 hus hq =>
          rw [hq _ _ _ hm]
          exact .t _ _ (row_rep (hs.mem _ _ hm).2 (fun b hb => ⟨(hs.out id b (by rw [hm]; rfl) (.inl hb)).2.1, hy id (by simp [refs1]) e k xs hm b (.inl hb)⟩) (fun b _ h => hM b h))
      · exact base
    | _ => exact base
  have hsing : ∀ (y : A), y.single = true → (arg1 st y).single = true := fun y hy => by
    cases y with
    | ref id => unfold arg1; dsimp only; split <;> rfl
    | _ => exact hy
  cases x with
  | agg cs =>
    cases h with
    | agg _ vs hsz h1 hr =>
      refine .agg _ vs (by simpa using hsz) (fun i hi => ?_) (fun i hi => ?_)
      · simp only [List.getElem_map]; exact hsing _ (h1 i (by simpa using hi))
      · simp only [List.getElem_map]; exact one (fun id hid => hx id (by simp only [refs2, List.mem_flatMap]; exact ⟨_, List.getElem_mem _, hid⟩)) (hr i (by simpa using hi))
  | _ => exact (fun q => one q h) hx
theorem plain_enter {f : FuncId} (h : plainFn P f = true) (args : Array Value) (w : World) : (callFunc f args).run P w = .ok (.enter f args) w := by
  unfold plainFn at h
  split at h
  · rename_i fn hf
    simp only [Bool.and_eq_true, Bool.not_eq_true', beq_eq_false_iff_ne, ne_eq] at h
    obtain ⟨c, hc⟩ := Option.isSome_iff_exists.1 h.1
    simp [callFunc, hf, h.2, hc]
  · cases h
theorem op_call {o : Oper} {K : St → Prop} (f : FuncId) (args : Array Operand) (ts : Array TypeId) (ho : o.op = .call { callee := .value (.func f), args := args, argTypes := ts }) (r : A) (hf : FnP P f (args.toList.map fun x => arg2 st (st.ev x)) r) (hflat : (args.toList.map fun x => arg2 st (st.ev x)).all flat2 = true)
    (h : (scal3 r = true ∧ K (st.put o.dst r)) ∨ K ((st.frzs ((args.toList.map st.ev).flatMap refs2)).put o.dst r)) : Opk P o st K := by
  intro C a w hP ⟨L, hs⟩ hd next Q hn
  have hflat : (args.toList.all fun x => flat2 (arg2 st (st.ev x))) = true := by rw [List.all_map] at hflat; exact hflat
  have hfm : (args.toList.map st.ev).flatMap refs2 = args.toList.flatMap fun x => refs2 (st.ev x) := by rw [List.flatMap_map]
  rw [hfm] at h
  obtain ⟨hpl, hcall⟩ := hf
  have run : (execOp a.eval o).run P w = .ok (.enter f (args.map a.eval)) w := by
    unfold execOp
    simp only [ho, resolve, Deferred.ofValue, invoke, Act.eval, Sem.run_bind, Sem.run_pure, Result.andThen_ok]
    rw [show #[] ++ Array.map a.eval args ++ #[] = args.map a.eval by simp]
    exact plain_enter hpl _ w
  have hget : ∀ i (hi : i < (args.toList.map fun x => arg2 st (st.ev x)).length), (args.map a.eval).getD i undef = a.eval (args[i]'(by simpa using hi)) := fun i hi => by
    have : i < args.size := by simpa using hi
    simp [Array.getD_eq_getD_getElem?, this]
  have hargs : ∀ (M' : Nat → Prop), (∀ b, M' b → Mut C st L b) → (∀ x ∈ args.toList, ∀ id ∈ refs2 (st.ev x), ∀ e k xs, st.mem id = some (.row e k xs) → ∀ b, (L id).has b → ¬ M' b) →
      ∀ i (hi : i < (args.toList.map fun x => arg2 st (st.ev x)).length), RepF w M' ((args.toList.map fun x => arg2 st (st.ev x))[i]) ((args.map a.eval).getD i undef) := fun M' hM hx i hi => by
    have hi' : i < args.size := by simpa using hi
    rw [hget i hi]
    simp only [List.getElem_map, Array.getElem_toList]
    have hmem : args[i] ∈ args.toList := by simp
    exact repF_of (List.all_eq_true.1 hflat _ hmem) (arg_rep hs hM (hx _ hmem) (ev_rep hs _))
  unfold Oper.wp
  rw [run]
  rcases h with ⟨hsc, h⟩ | h
  · refine (hcall w (fun _ => False) (args.map a.eval) (fun b hb => hb.elim) (by simp) (hargs _ (fun b hb => hb.elim) (fun _ _ _ _ _ _ _ _ _ _ h => h))).mono ?_
    rintro e w' ⟨v, rfl, hb, hr⟩
    refine hn _ _ _ (by simp) h ⟨L, (hs.later hb.os hb.tape hb.output hb.size hb.block).put _ hd (repF_to (scal_any hsc hr))⟩
  · generalize hids : (args.toList.flatMap fun x => refs2 (st.ev x)) = ids at h
    have hs1 := hs.frzs ids
    have hM : ∀ b, Mut C (st.frzs ids) L b → Mut C st L b := by
      rintro b (hx | ⟨i, hi, hl⟩)
      · exact .inl hx
      · obtain ⟨b', hb'⟩ := Option.isSome_iff_exists.1 hi
        obtain ⟨c, hc, _⟩ := frzs_mem ids st i b' hb'
        exact .inr ⟨i, by rw [hc]; rfl, hl⟩
    refine (hcall w (Mut C (st.frzs ids) L) (args.map a.eval) (fun b hb => ?_) (by simp) (hargs _ hM (fun x hx id hid e k xs hm b hb => ?_))).mono ?_
    · rcases hb with hx | ⟨i, hi, hl⟩
      · exact Nat.lt_of_lt_of_le (hs.old b hx) hs.size
      · exact (hs1.out i b hi hl).2.1
    · rintro (hX | ⟨i, hi, hl⟩)
      · exact (hs.out id b (by rw [hm]; rfl) hb).1 hX
      · obtain ⟨b', hb'⟩ := Option.isSome_iff_exists.1 hi
        obtain ⟨c, hc, _, hbox⟩ := frzs_mem ids st i b' hb'
        have : i = id := hs.inj i id b (by rw [hc]; rfl) (by rw [hm]; rfl) hl hb
        subst this
        have h4 := hbox (by rw [← hids]; exact List.mem_flatMap.2 ⟨x, hx, hid⟩)
        rw [hm] at hc
        cases hc
        exact h4 _ _ _ rfl
    · rintro e w' ⟨v, rfl, hb, hr⟩
      exact hn _ _ _ (by simp) h ⟨L, (hs1.later hb.os hb.tape hb.output hb.size hb.block).put _ (by simpa using hd) (repF_to hr)⟩
theorem op_callv {o : Oper} {K : St → Prop} (h : CallV P o st K) : Opk P o st K := by
  intro C a w hP ⟨L, hs⟩ hd next Q hn
  obtain ⟨⟨callee, args, ts⟩, x, t, r, ho, hc, hx, hf, hflat, hsc, hK⟩ := h
  dsimp only at hc hf hflat hsc
  subst hc
  have hrx := ev_rep hs x
  rw [hx] at hrx
  have hlen : (args.map a.eval).size = args.size := by simp
  have main : ∀ (M' : Nat → Prop), (∀ b, M' b → b < w.heap.size) → (∀ b, M' b → Mut C st L b) → (∀ y ∈ args.toList, ∀ id ∈ refs2 (st.ev y), ∀ e k xs, st.mem id = some (.row e k xs) → ∀ b, (L id).has b → ¬ M' b) →
      ∃ f vals, (execOp a.eval o).run P w = .ok (.enter f vals) w ∧ Calls P f vals w fun e w' => ∃ v, e = .returned v ∧ Below w.heap.size w w' ∧ RepF w' M' r v := fun M' hlt hM hown => by
    have hargs : ∀ i (hi : i < args.size), RepF w M' (arg2 st (st.ev args[i])) ((args.map a.eval)[i]'(by simpa using hi)) := fun i hi => by
      have hmem : args[i] ∈ args.toList := by simp
      simp only [Array.getElem_map]
      exact repF_of (List.all_eq_true.1 hflat _ (List.mem_map.2 ⟨_, hmem, rfl⟩)) (arg_rep hs hM (hown _ hmem) (ev_rep hs _))
    rcases hf with ⟨f, caps, rfl, hf⟩ | ⟨f, rfl, hf⟩
    · generalize hv : a.eval x = v at hrx
      cases hrx with
      | t _ _ hr =>
        cases hr with
        | clo _ _ vs b off c hsz hva hcc hrr =>
          have run : (execOp a.eval o).run P w = .ok (.enter f (args.map a.eval ++ vs)) w := by
            unfold execOp
            simp only [ho, resolve, hv, Deferred.ofValue, invoke, Sem.run_bind, Sem.run_pure, Result.andThen_ok]
            rw [show #[] ++ Array.map a.eval args ++ vs = args.map a.eval ++ vs by simp]
            exact plain_enter hf.1 _ w
          refine ⟨f, _, run, hf.2 w M' _ hlt (by simp [hsz]) fun i hi => ?_⟩
          by_cases hi' : i < args.size
          · have e1 : ((args.toList.map fun y => arg2 st (st.ev y)) ++ caps.map fun c => A.t (.fp c))[i] = arg2 st (st.ev args[i]) := by
              rw [List.getElem_append_left (by simpa using hi')]; simp
            have e2 : (args.map a.eval ++ vs).getD i undef = (args.map a.eval)[i]'(by simpa using hi') := by
              rw [Array.getD_eq_getD_getElem?, Array.getElem?_append_left (by simpa using hi'), Array.getElem?_eq_getElem (by simpa using hi')]; rfl
            rw [e1, e2]; exact hargs i hi'
          · have hj : i - args.size < caps.length := by simp at hi; omega
            have e1 : ((args.toList.map fun y => arg2 st (st.ev y)) ++ caps.map fun c => A.t (.fp c))[i] = .t (.fp caps[i - args.size]) := by
              rw [List.getElem_append_right (by simpa using hi')]; simp
            have e2 : (args.map a.eval ++ vs).getD i undef = vs.getD (i - args.size) undef := by
              rw [Array.getD_eq_getD_getElem?, Array.getElem?_append_right (by simpa using hi'), Array.getD_eq_getD_getElem?]; simp
            obtain ⟨q1, q2, q3⟩ := hva _ hj
            rw [e1, e2, q1]
            exact .t _ _ (.fp _ _ _ _ q2 (fun h => q3 (hM _ h)) (hcc _ hj) fun j hj' => (hrr _ hj j hj').ext (Ext.refl _ _) fun b _ => hM b)
    · have hv := rep_val hrx
      have run : (execOp a.eval o).run P w = .ok (.enter f (args.map a.eval)) w := by
        unfold execOp
        simp only [ho, resolve, hv, Deferred.ofValue, invoke, Sem.run_bind, Sem.run_pure, Result.andThen_ok]
        rw [show #[] ++ Array.map a.eval args ++ #[] = args.map a.eval by simp]
        exact plain_enter hf.1 _ w
      refine ⟨f, _, run, hf.2 w M' _ hlt (by simp) fun i hi => ?_⟩
      have hi' : i < args.size := by simpa using hi
      have e2 : (args.map a.eval).getD i undef = (args.map a.eval)[i]'(by simpa using hi') := by
        rw [Array.getD_eq_getD_getElem?, Array.getElem?_eq_getElem (by simpa using hi')]; rfl
      rw [e2]
      simpa using hargs i hi'
  unfold Oper.wp
  rcases hsc with hsc | hnil
  · obtain ⟨f, vals, run, hcall⟩ := main (fun _ => False) (fun _ h => h.elim) (fun _ h => h.elim) (fun _ _ _ _ _ _ _ _ _ _ h => h)
    rw [run]
    refine hcall.mono ?_
    rintro e w' ⟨v, rfl, hb, hr⟩
    exact hn _ _ _ (by simp) hK ⟨L, (hs.later hb.os hb.tape hb.output hb.size hb.block).put _ hd (repF_to (scal_any hsc hr))⟩
  · obtain ⟨f, vals, run, hcall⟩ := main (Mut C st L) (fun b hb => by
      rcases hb with hx | ⟨i, hi, hl⟩
      · exact Nat.lt_of_lt_of_le (hs.old b hx) hs.size
      · exact (hs.out i b hi hl).2.1) (fun _ h => h) (fun y hy id hid e k xs hm b hb => by
        have : id ∈ (args.toList.map st.ev).flatMap refs2 := by rw [List.flatMap_map]; exact List.mem_flatMap.2 ⟨y, hy, hid⟩
        rw [hnil] at this; simp at this)
    rw [run]
    refine hcall.mono ?_
    rintro e w' ⟨v, rfl, hb, hr⟩
    exact hn _ _ _ (by simp) hK ⟨L, (hs.later hb.os hb.tape hb.output hb.size hb.block).put _ hd (repF_to hr)⟩
theorem op_callio {o : Oper} {K : St → Prop} (f : FuncId) (args : Array Operand) (ts : Array TypeId) (ho : o.op = .call { callee := .value (.func f), args := args, argTypes := ts }) (h : CallIO P f o.dst (args.toList.map st.ev) st K) : Opk P o st K := by
  intro C a w hP ⟨L, hs⟩ hd next Q hn
  obtain ⟨cargs, m, r, m', ρ, ν, hf, htup, _, hc, _, hargs, hK⟩ := h
  have run : (execOp a.eval o).run P w = .ok (.enter f (args.map a.eval)) w := by
    unfold execOp
    simp only [ho, resolve, Deferred.ofValue, invoke, Act.eval, Sem.run_bind, Sem.run_pure, Result.andThen_ok]
    rw [show #[] ++ Array.map a.eval args ++ #[] = args.map a.eval by simp]
    exact plain_enter hf.1 _ w
  unfold Oper.wp
  rw [run]
  subst hP
  refine (call_io hs hf hc (args.map a.eval) (args.toList.map st.ev) (by simp) (fun i hi => ?_) hargs htup).mono ?_
  · have hi' : i < args.size := by simpa using hi
    have e : (args.map a.eval).getD i undef = a.eval (args[i]) := by simp [Array.getD_eq_getD_getElem?, hi']
    rw [e]
    simp only [List.getElem_map, Array.getElem_toList]
    exact ev_rep hs _
  · rintro e w' ⟨v, L3, rfl, hs', hr⟩
    exact hn _ _ _ (by simp [St.back]) hK ⟨L3, hs'.put _ hd hr⟩
end Go.Proofs.Ytmffhifkdbfbfaa
namespace Go.Proofs.Ytmffhifkdbfbfaa
open Go.RowKit
set_option linter.unusedVariables false
variable {C : Ctx} {st st' : St} {L L' : Nat → Loc} {a : Act} {w : World} {P : Program}
theorem op_store_row {o : Oper} {K : St → Prop} (t : TypeId) (p x : Operand) (ho : o.op = .store t p x) (ti : TI) (cs : List A) (ht : tinfo P t = some ti) (hc : cellsOf (st.ev x) = some cs) (hsz : cs.length = ti.size)
    (id i j : Nat) (e : TypeId) (k : Nat) (xs : List (List T)) (el l : List T) (hp : st.ev p = .rptr id i j) (hm : st.mem id = some (.row e k xs)) (hel : xs[i]? = some el) (hl : cellsT cs = some l) (hfit : j + l.length ≤ el.length)
    (h : K ((st.setm id (.row e k (xs.set i (el.take j ++ l ++ el.drop (j + l.length))))).put o.dst .dead)) : Opk P o st K := by
  intro C a w hP ⟨L, hs⟩ hd next Q hn
  obtain ⟨inf, d, z, hi, hu, hz, h1, h2, h3, h4, h5, h6, h7, h8, h9⟩ := (tparts ht).ex
  obtain ⟨hvs, hvr⟩ := repCs_cells hc (ev_rep hs x)
  obtain ⟨hll, hlg⟩ := cellsT_get cs l hl
  have hpr := ev_rep hs p
  rw [hp] at hpr
  generalize hv : a.eval p = v at hpr
  cases hpr with
  | rptr _ _ _ _ q1 q2 q3 =>
    obtain ⟨hi', rfl⟩ := List.getElem?_eq_some_iff.1 hel
    obtain ⟨h0, hk, hq⟩ := (hs.mem _ _ hm).2
    rcases hq with ⟨hxs, _⟩ | ⟨b, cur, hb, hw, hle, hcm, hcs, hcc⟩
    · subst hxs; simp at hi'
    · have e1 : v = .pointer (some ⟨b, i * k + j, none⟩) := by rw [q3 _ _ _ hm]; simp [Loc.ptr, hb]
      have hki := hk i hi'
      have hik : (i + 1) * k ≤ xs.length * k := Nat.mul_le_mul_right _ hi'
      have hlk : xs.length * k ≤ (L id).cap * k := Nat.mul_le_mul_right _ hle
      have hexp : (i + 1) * k = i * k + k := by rw [Nat.add_mul, Nat.one_mul]
      have hfit' : (i * k + j) + (a.eval x).cells.size ≤ cur.size := by rw [hvs, hcs]; omega
      have hone : ∀ u ∈ (a.eval x).cells.toList, u.oneCell' = true := fun u hu => by
        obtain ⟨q, hq, rfl⟩ := List.getElem_of_mem hu
        have hq' : q < cs.length := by simp at hq; omega
        obtain ⟨hs1, u, hu, hr⟩ := hvr q _ (List.getElem?_eq_getElem hq')
        have : (a.eval x).cells[q]? = some u := hu
        rw [Array.getElem?_eq_getElem (by omega)] at this
        cases this
        exact hr.one hs1
      have hrun := run_store (P := P) hw hi (a.eval x) (i * k + j) (by rw [hvs, hsz, h1]) hfit' hone
      generalize hel' : (xs[i]).take j ++ l ++ (xs[i]).drop (j + l.length) = el' at h
      have hel'l : el'.length = k := by rw [← hel', splice_len _ _ _ hfit, hki]
      refine wp_skipped (w' := _) (by unfold execOp; simp only [ho, hv, e1]; rw [Sem.run_bind, hrun]; rfl) (hn _ _ _ (by simp; rfl) h ⟨L, SimL.put (hs.setm id _ (.row e k (xs.set i el')) hm ⟨rfl, by simp⟩ b hb ?_) _ hd (.dead _)⟩)
      have hl2 : ((cur.toList.take (i * k + j) ++ (a.eval x).cells.toList ++ cur.toList.drop ((i * k + j) + (a.eval x).cells.toList.length)).toArray).size = cur.size := by
        rw [List.size_toArray, splice_len _ _ _ (by simpa using hfit')]; simp
      refine ⟨h0, fun q hq => ?_, .inr ⟨b, _, hb, setRow_heap w b cur _ e _ hw, by simpa using hle, hcm, by rw [hl2]; exact hcs, fun q hq r hr => ?_⟩⟩
      · by_cases eq : q = i
        · subst eq; simp [hel'l]
        · rw [List.getElem_set_ne (fun h => eq h.symm)]; exact hk q (by simpa using hq)
      · have hq' : q < xs.length := by simpa using hq
        have ext : ∀ {y : T} {u : Value}, RepT w (Mut C st L) y u → RepT (w.setRow b (cur.toList.take (i * k + j) ++ (a.eval x).cells.toList ++ cur.toList.drop ((i * k + j) + (a.eval x).cells.toList.length)).toArray) (Mut C st L) y u := fun hy =>
          hy.ext ⟨by simp, fun k hk hm' => setRow_other w b k _ fun e => hm' (.inr ⟨id, by rw [hm]; rfl, by rw [e]; exact .inl hb⟩)⟩ (fun _ _ h => h)
        have g2 := splice_get cur.toList (a.eval x).cells.toList (i * k + j) (q * k + r) (by simpa using hfit')
        have ell : (a.eval x).cells.toList.length = cs.length := by simpa using hvs
        rw [List.getElem?_toArray, g2]
        by_cases eq : q = i
        · subst eq
          have hr' : r < el'.length := by simpa using hr
          have e3 : (xs.set q el')[q]'hq = el' := by simp
          simp only [e3]
          have hgr : (el'[r]? : Option T) = some (el'[r]) := List.getElem?_eq_getElem hr'
          have hgr0 : ((xs[q]).take j ++ l ++ (xs[q]).drop (j + l.length))[r]? = some (el'[r]) := by rw [hel']; exact hgr
          rw [splice_get _ _ _ _ hfit] at hgr0
          have old : ∀ tt, (xs[q])[r]? = some tt → ∃ c, cur.toList[q * k + r]? = some c ∧ RepT w (Mut C st L) tt c := fun tt htt => by
            obtain ⟨z1, rfl⟩ := List.getElem?_eq_some_iff.1 htt
            obtain ⟨c, hc1, hc2⟩ := hcc q hq' r z1
            exact ⟨c, by simpa using hc1, hc2⟩
          by_cases c1 : r < j
          · rw [if_pos c1] at hgr0
            rw [if_pos (by omega)]
            obtain ⟨c, hc1, hc2⟩ := old _ hgr0
            exact ⟨c, hc1, ext hc2⟩
          · rw [if_neg c1] at hgr0
            rw [if_neg (by omega)]
            by_cases c2 : r < j + l.length
            · rw [if_pos c2] at hgr0
              rw [if_pos (by omega), show q * k + r - (q * k + j) = r - j by omega]
              have hrj : r - j < cs.length := by omega
              have hy := hlg (r - j) _ _ (List.getElem?_eq_getElem hrj) hgr0
              obtain ⟨_, u, hu, hrep⟩ := hvr (r - j) _ (List.getElem?_eq_getElem hrj)
              rw [hy] at hrep
              exact ⟨u, by simpa using hu, ext (rep_t hrep)⟩
            · rw [if_neg c2] at hgr0
              rw [if_neg (by omega)]
              obtain ⟨c, hc1, hc2⟩ := old _ hgr0
              exact ⟨c, hc1, ext hc2⟩
        · have e3 : (xs.set i el')[q]'hq = xs[q] := List.getElem_set_ne (fun h => eq h.symm) _
          simp only [e3]
          have hr' : r < (xs[q]).length := by simpa [e3] using hr
          have hkq := hk q hq'
          obtain ⟨c, hc1, hc2⟩ := hcc q hq' r hr'
          refine ⟨c, ?_, ext hc2⟩
          have hout : q * k + r < i * k + j ∨ i * k + j + cs.length ≤ q * k + r := by
            rcases Nat.lt_or_gt_of_ne eq with hlt | hgt
            · have : (q + 1) * k ≤ i * k := Nat.mul_le_mul_right _ hlt
              rw [Nat.add_mul] at this
              left; omega
            · have : (i + 1) * k ≤ q * k := Nat.mul_le_mul_right _ hgt
              right; omega
          rcases hout with ho1 | ho1
          · rw [if_pos ho1]; simpa using hc1
          · rw [if_neg (by omega), if_neg (by omega)]; simpa using hc1
theorem step_sound0 {o : Oper} {K : St → Prop} (h : stepW0 P o st K) : Opk P o st K := by
  unfold stepW0 at h
  split at h
  · exact op_move _ (.inl (by assumption)) h
  · exact op_move _ (.inr (by assumption)) h
  · obtain ⟨t, hc, h⟩ := h
    exact op_pick _ _ _ (by assumption) t hc h
  · obtain ⟨d, ti, h1, h2, h3, h⟩ := h
    exact op_alloc _ (by assumption) d ti h1 h2 h3 h
  · obtain ⟨d, cs, h1, h2, h3, h⟩ := h
    exact op_box _ _ (by assumption) d cs h1 h2 h3 h
  · obtain ⟨ti, cs, h1, h2, h3, h⟩ := h
    exact op_build _ _ (by assumption) ti cs h1 h2 h3 h
  · obtain ⟨d, ti, e, te, xs, h1, h2, h3, h4, h5, h6, h7, h8, h9, h⟩ := h
    exact op_buildSlice _ _ _ (by assumption) d ti e te xs h1 h2 h3 h4 h5 h6 h7 h8 _ h9 h
  · obtain ⟨ti, x, h1, h2, h⟩ := h
    exact op_load _ _ (by assumption) ti x h1 h2 h
  · obtain ⟨ti, cs, h1, h2, h3, h⟩ := h
    rcases h with ⟨id, off, ty, cells, h4, h5, h6, h⟩ | ⟨id, i, j, e, k, xs, el, l, h4, h5, h6, h7, h8, h⟩
    · exact op_store _ _ _ (by assumption) ti cs id off ty cells h1 h2 h3 h4 h5 h6 h
    · exact op_store_row _ _ _ (by assumption) ti cs h1 h2 h3 id i j e k xs el l h4 h5 h6 h7 h8 h
  · exact op_nil _ (by assumption) h.1 h.2
  · obtain ⟨z, h1, h2, h⟩ := h
    exact op_bin _ _ _ _ _ (by assumption) z h2 h1 h
  · obtain ⟨y, z, h1, h2, h3, h⟩ := h
    exact op_un _ _ _ (by assumption) y z h1 h2 h3 h
  · obtain ⟨z, h1, h2, h⟩ := h
    exact op_convert _ _ _ (by assumption) z h1 h2 h
  · obtain ⟨ti, z, h1, h2, h3, h4, h⟩ := h
    exact op_fieldAddr _ _ _ (by assumption) ti z h1 h3 h4 h
  · obtain ⟨ti, z, h1, h2, h3, h⟩ := h
    exact op_field _ _ _ (by assumption) ti z h1 h3 h
  · obtain ⟨ti, e, te, k', xs, k, n, el, h1, h2, h3, h4, h5, h6, h7, h⟩ := h
    exact op_indexAddr _ _ _ (by assumption) ti e te k' xs k n el h1 h2 h3 h4 h5 h6 h7 h
  · obtain ⟨s, k, n, b, h1, h2, h3, h4, h⟩ := h
    exact op_index _ _ _ (by assumption) s k n b h1 h2 h3 h4 h
  · obtain ⟨cs, y, h1, h2, h⟩ := h
    exact op_extract _ _ (by assumption) cs y h1 h2 h
  · rename_i c ho
    obtain ⟨callee, args, ts⟩ := c
    dsimp only at h
    split at h
    · rename_i x ty tl ha ht
      obtain ⟨z, h2, h⟩ := h
      have ha' : args = #[x] := by rw [← Array.toList_inj]; simpa using ha
      subst ha'
      exact op_len _ _ ho ty z (by rw [← Array.getElem?_toList, ht]; rfl) h2 h
    · rename_i x y t t' ha ht
      obtain ⟨d, ti, e, te, k'', ys, rfl, h1, h2, h3, h4, h5, h6, h7, h8, h⟩ := h
      have ha' : args = #[x, y] := by rw [← Array.toList_inj]; simpa using ha
      have ht' : ts = #[t, t] := by rw [← Array.toList_inj]; simpa using ht
      subst ha' ht'
      exact op_append _ _ _ ho d ti e te k'' ys h1 h2 h3 h4 h5 h6 h7 h8 h
    · rename_i f
      rcases h with ⟨r, h1, h2, h⟩ | h
      · exact op_call _ _ _ ho r h1 h2 h
      · exact op_callio _ _ _ ho h
    · exact h.elim
  · exact h.elim
theorem args_rep (hs : SimL C st L a w) {o : Oper} (hflat : (argsOf o st).all flat2 = true) {M' : Nat → Prop} (hM : ∀ b, M' b → Mut C st L b) (hx : ∀ x ∈ opL o.op, ∀ id ∈ refs2 (st.ev x), ∀ e k xs, st.mem id = some (.row e k xs) → ∀ b, (L id).has b → ¬ M' b) :
    (argsOf o st).length = (opL o.op).length ∧ ∀ i (hi : i < (argsOf o st).length) (hi' : i < (opL o.op).length), RepF w M' ((argsOf o st)[i]) (a.eval ((opL o.op)[i])) := by
  refine ⟨by simp [argsOf], fun i hi hi' => ?_⟩
  have hf := List.all_eq_true.1 hflat _ (List.getElem_mem hi)
  simp only [argsOf, List.getElem_map] at hf ⊢
  exact repF_of hf (arg_rep hs hM (hx _ (List.getElem_mem hi')) (ev_rep hs _))
theorem other_sound {o : Oper} {K : St → Prop} (h : Other P o st K) : Opk P o st K := by
  intro C a w hP ⟨L, hs⟩ hd next Q hn
  obtain ⟨hflat, h⟩ := h
  have hno : noRefs o st = true → ∀ x ∈ opL o.op, ∀ id ∈ refs2 (st.ev x), False := fun h x hx id hid => by
    have : id ∈ (opL o.op).flatMap fun x => refs2 (st.ev x) := List.mem_flatMap.2 ⟨x, hx, hid⟩
    unfold noRefs at h
    rw [List.isEmpty_iff.1 h] at this
    simp at this
  rcases h with ⟨x, hq, hsc, hK⟩ | ⟨d, e, k, ys, hdst, hu, ⟨h0, hm⟩, ⟨hnr, _⟩, hK⟩
  · rcases hsc with hsc | hnr
    · obtain ⟨h1, h2⟩ := args_rep hs hflat (M' := fun _ => False) (fun _ h => h.elim) (fun _ _ _ _ _ _ _ _ _ _ h => h)
      obtain ⟨v, w', hv, hb, hr⟩ := hq w (fun _ => False) a.eval (fun _ h => h.elim) h1 h2
      exact wp_value hv (hn _ _ _ (by simp) hK ⟨L, (hs.later hb.os hb.tape hb.output hb.size hb.block).put _ hd (repF_to (scal_any hsc hr))⟩)
    · obtain ⟨h1, h2⟩ := args_rep hs hflat (M' := Mut C st L) (fun _ h => h) (fun x hx id hid _ _ _ _ _ _ => (hno hnr x hx id hid).elim)
      obtain ⟨v, w', hv, hb, hr⟩ := hq w (Mut C st L) a.eval (fun b hb => by
        rcases hb with hx | ⟨i, hi, hl⟩
        · exact Nat.lt_of_lt_of_le (hs.old b hx) hs.size
        · exact (hs.out i b hi hl).2.1) h1 h2
      exact wp_value hv (hn _ _ _ (by simp) hK ⟨L, (hs.later hb.os hb.tape hb.output hb.size hb.block).put _ hd (repF_to hr)⟩)
  · obtain ⟨h1, h2⟩ := args_rep hs hflat (M' := Mut C st L) (fun _ h => h) (fun x hx id hid _ _ _ _ _ _ => (hno hnr x hx id hid).elim)
    obtain ⟨cur, cap, w1, q1, q2, q3, q4, q5, q6, q7, q8, q9, hrun⟩ := hm w (Mut C st L) a.eval h1 h2
    refine wp_value hrun (hn _ _ _ (by simp [St.new]) hK (new_row hs d hu e k h0 ys q8 cur cap q5 q6 q7 q1 q2 q3 q4 q9 _ hdst (hd d hdst)))
theorem newobj_sound {o : Oper} {K : St → Prop} (h : ∃ od d, newsObj o = true ∧ o.dst = some d ∧ st.used d = false ∧ noRefs o st = true ∧ (argsOf o st).all flat2 = true ∧ NewObj P o (argsOf o st) od ∧ K ((st.new d (.obj od)).put o.dst (.ob d))) : Opk P o st K := by
  obtain ⟨od, d, _, hdst, hu, hnr, hflat, hm, hK⟩ := h
  intro C a w hP ⟨L, hs⟩ hd next Q hn
  have hno : ∀ x ∈ opL o.op, ∀ id ∈ refs2 (st.ev x), False := fun x hx id hid => by
    have : id ∈ (opL o.op).flatMap fun x => refs2 (st.ev x) := List.mem_flatMap.2 ⟨x, hx, hid⟩
    unfold noRefs at hnr
    rw [List.isEmpty_iff.1 hnr] at this
    simp at this
  obtain ⟨h1, h2⟩ := args_rep hs hflat (M' := Mut C st L) (fun _ h => h) (fun x hx id hid _ _ _ _ _ _ => (hno x hx id hid).elim)
  obtain ⟨ob, w1, q1, q2, q3, q4, q5, q6, hrun⟩ := hm w (Mut C st L) a.eval (fun b hb => by
    rcases hb with hx | ⟨i, hi, hl⟩
    · exact Nat.lt_of_lt_of_le (hs.old b hx) hs.size
    · exact (hs.out i b hi hl).2.1) h1 h2
  have hsize : w1.heap.size = w.heap.size := by rw [q1]
  have hold : ∀ b, b < w.heap.size → (w1.alloc ob).heap[b]? = w.heap[b]? := fun b hb => by rw [Below.heap_alloc w1 _ _ (by omega), q1]
  have hs1 : SimL C (st.new d (.obj od)) (upd L d (Loc.at_ w.heap.size 0)) a (w1.alloc ob) := by
    refine hs.new d (.inl (hd d hdst)) hu _ _ q2 q3 q4 (by simp; omega) hold (fun b hb => by cases at_has hb; simp; omega) (fun M hM => ⟨w.heap.size, ob, by rw [upd_same], by rw [← hsize]; exact heap_alloc_new w1 _, ?_⟩)
    exact q5.move q6 ⟨by simp; omega, fun k hk _ => hold k hk⟩ hM
  refine wp_value hrun (hn _ _ _ (by simp [St.new]) hK ⟨_, hs1.put _ hd (.ob d _ (by unfold Loc.ob; split <;> rfl) (by simp [St.new, upd]) fun od' hm' => ?_)⟩)
  have : od = od' := by simpa [St.new, upd] using hm'
  subst this
  rw [upd_same]
theorem step_sound {o : Oper} {K : St → Prop} (h : stepW P o st K) : Opk P o st K := by
  rcases h with h | h | (⟨i, b, xs, b', id, d, _, h1, h2, h3, h4, h5, h6, hK⟩ | ⟨i, b, xs, b', r, id, _, h1, h2, h3, _, h4, hK⟩ | h) | h
  · exact step_sound0 h
  · exact other_sound h
  · exact h6 st id d K h1 h2 h3 h4 h5 hK
  · exact h4 st id K h1 h2 h3 hK
  · exact newobj_sound h
  · exact op_callv h
def opsOk (ops : Array Oper) (n : Nat) : Bool := ops.toList.all fun o => match o.dst with | some d => decide (d < n) | none => true
theorem opsOk_dst {ops : Array Oper} {n : Nat} (h : opsOk ops n = true) {i : Nat} {o : Oper} (ho : ops[i]? = some o) : ∀ d, o.dst = some d → d < n := by
  intro d hd
  have := List.all_eq_true.1 h o (List.mem_of_getElem? (by simpa using ho))
  rw [hd] at this
  exact of_decide_eq_true this
theorem runW_sound (ops : Array Oper) : ∀ (l : List Nat) (st : St) (K : St → Prop), runW P ops l st K → opsOk ops st.n = true → ∀ (C : Ctx) (a : Act) (w : World), C.P = P → Sim C st a w → ∀ Q : Exit → Act → World → Prop,
    (∀ st' a' w', st'.n = st.n → K st' → Sim C st' a' w' → Q .normal a' w') → wpOps P ops Q l a w
  | [], st, K, h, hok, C, a, w, hP, hs, Q, hn => hn st a w rfl h hs
  | i :: rest, st, K, h, hok, C, a, w, hP, hs, Q, hn => by
    simp only [runW] at h
    simp only [wpOps]
    cases ho : ops[i]? with
    | none => simp only [ho] at h ⊢; exact runW_sound ops rest st K h hok C a w hP hs Q hn
    | some o =>
      simp only [ho] at h ⊢
      have hd := opsOk_dst hok ho
      have go : (∃ ids, stepW P o (st.frzs ids) (fun st' => runW P ops rest st' K)) → o.wp P a w (wpOps P ops Q rest) Q := fun ⟨ids, h⟩ => by
        obtain ⟨L, hsL⟩ := hs
        have hnn : (st.frzs ids).n = st.n := by simp
        exact step_sound h C a w hP ⟨L, hsL.frzs ids⟩ (by rw [hnn]; exact hd) _ Q fun st' a' w' hn' hK hs' => runW_sound ops rest st' K hK (by rw [hn', hnn]; exact hok) C a' w' hP hs' Q fun s a w h1 h2 h3 => hn s a w (by rw [h1, hn', hnn]) h2 h3
      cases hg : o.guard with
      | none =>
        simp only [hg] at h
        have : Region.wanted o (yielded ops a.tmps) = true := by simp [Region.wanted, hg]
        rw [if_pos this]
        exact .inl (go h)
      | some jw =>
        obtain ⟨j, want⟩ := jw
        simp only [hg] at h
        have skip : runW P ops rest (st.put o.dst (.tup [])) K → ¬ Region.wanted o (yielded ops a.tmps) = true → wpOps P ops Q rest (a.put o.dst undef) w := fun h2 this => by
          obtain ⟨L, hs'⟩ := hs
          have hsim : Sim C (st.put o.dst (.tup [])) (a.put o.dst undef) w := ⟨L, hs'.put _ hd (.tup _ _ rfl fun i hi => by simp at hi)⟩
          exact runW_sound ops rest _ K h2 (by simpa using hok) C _ w hP hsim Q fun s a w h1 h2 h3 => hn s a w (by simpa using h1) h2 h3
        rcases h with ⟨b, hb, h1, h2⟩ | ⟨hb, h2⟩
        case inr =>
          have hy : yielded ops a.tmps j = none := by
            unfold guardOf at hb
            unfold yielded
            split at hb
            · rename_i d hd'
              rw [hd']
              obtain ⟨L, hs⟩ := hs
              have e := hs.env d
              rw [hb] at e
              generalize hv : a.tmps.getD d undef = v at e
              cases e with
              | tup _ vs hsz _ =>
                rw [Array.getD_eq_getD_getElem?] at hv
                cases ht : a.tmps[d]? with
                | none => simp [ht]
                | some v => rw [ht] at hv; simp at hv; subst hv; simp [ht]
            · cases hb
          have : ¬ Region.wanted o (yielded ops a.tmps) = true := by simp [Region.wanted, hg, hy]
          rw [if_neg this]
          exact skip h2 this
        have hy : yielded ops a.tmps j = some b := by
          unfold guardOf at hb
          unfold yielded
          split at hb
          · rename_i d hd'
            rw [hd']
            obtain ⟨L, hs⟩ := hs
            have e := rep_val (hb ▸ hs.env d)
            rw [Array.getD_eq_getD_getElem?] at e
            cases ht : a.tmps[d]? with
            | none => rw [ht] at e; simp [undef] at e
            | some v => rw [ht] at e; simp at e; subst e; simp [ht]
          · cases hb
        by_cases hbw : b = want
        · subst hbw
          have : Region.wanted o (yielded ops a.tmps) = true := by simp [Region.wanted, hg, hy]
          rw [if_pos this]
          exact .inl (go (h1 rfl))
        · have : ¬ Region.wanted o (yielded ops a.tmps) = true := by simp [Region.wanted, hg, hy, hbw]
          rw [if_neg this]
          exact skip (h2 hbw) this
def W (P : Program) (c : Code) (st : St) (Q : Exit → St → Prop) : Prop :=
  ∀ (C : Ctx) (a : Act) (w : World), C.P = P → Sim C st a w → c.wp P (fun e a' w' => ∃ st', st'.n = st.n ∧ Q e st' ∧ Sim C st' a' w') a w
theorem W_region {id : Nat} {ops : Array Oper} {Q : Exit → St → Prop} (hok : opsOk ops st.n = true) (h : runW P ops (List.range ops.size) st (Q .normal)) : W P (.region id ops false) st Q :=
  fun C a w hP hs => wp_region (runW_sound ops _ st _ h hok C a w hP hs _ fun st' a' w' h1 h2 h3 => ⟨st', h1, h2, h3⟩)
theorem W_skip {Q : Exit → St → Prop} (h : Q .normal st) : W P .skip st Q := fun C a w hP hs => wp_skip ⟨st, rfl, h, hs⟩
theorem W_exit {id : Nat} {Q : Exit → St → Prop} (h : Q (.exit id) st) : W P (.exit id) st Q := fun C a w hP hs => wp_exit ⟨st, rfl, h, hs⟩
theorem W_ret {Q : Exit → St → Prop} (h : Q .ret st) : W P .ret st Q := fun C a w hP hs => wp_ret ⟨st, rfl, h, hs⟩
def thenQ (P : Program) (y : Code) (Q : Exit → St → Prop) : Exit → St → Prop
  | .normal, st => W P y st Q
  | e, st => Q e st
theorem W_seq {x y : Code} {Q : Exit → St → Prop} (h : W P x st (thenQ P y Q)) : W P (.seq x y) st Q := fun C a w hP hs =>
  wp_seq (wp_mono (h C a w hP hs) fun e a' w' ⟨st', h1, h2, h3⟩ => by
    cases e with
    | normal => exact wp_mono (h2 C a' w' hP h3) fun e a w ⟨s, q1, q2, q3⟩ => ⟨s, by rw [q1, h1], q2, q3⟩
    | _ => exact ⟨st', h1, h2, h3⟩)
theorem W_cond {c : Operand} {x y : Code} {Q : Exit → St → Prop} (b : Bool) (hc : st.ev c = .v (.bool b)) (ht : b = true → W P x st Q) (hf : b = false → W P y st Q) : W P (.cond c x y) st Q := fun C a w hP hs => by
  obtain ⟨L, hs'⟩ := hs
  have e := rep_val (hc ▸ ev_rep hs' c)
  exact wp_cond_split e (fun hb => ht hb C a w hP ⟨L, hs'⟩) (fun hb => hf hb C a w hP ⟨L, hs'⟩)
def blockQ (id : Nat) (Q : Exit → St → Prop) : Exit → St → Prop
  | .exit i, st => if i = id then Q .normal st else Q (.exit i) st
  | e, st => Q e st
theorem W_block {id : Nat} {c : Code} {Q : Exit → St → Prop} (h : W P c st (blockQ id Q)) : W P (.block id c) st Q := fun C a w hP hs =>
  wp_block (wp_mono (h C a w hP hs) fun e a' w' ⟨st', h1, h2, h3⟩ => by
    cases e with
    | exit i =>
      simp only [Exit.inBlock]
      simp only [blockQ] at h2
      split
      · rename_i hi; rw [if_pos hi] at h2; exact ⟨st', h1, h2, h3⟩
      · rename_i hi; rw [if_neg hi] at h2; exact ⟨st', h1, h2, h3⟩
    | _ => exact ⟨st', h1, h2, h3⟩)
def Fits (st st' : St) : Prop := st'.n = st.n ∧ ∀ (C : Ctx) (a : Act) (w : World), Sim C st a w → Sim C st' a w
theorem Fits.refl (st : St) : Fits st st := ⟨rfl, fun _ _ _ h => h⟩
def loopQ {σ : Type} (inv : σ → Prop) (μ : σ → Nat) (s : σ → St) (x : σ) (Q : Exit → St → Prop) : Exit → St → Prop
  | .normal, st => ∃ x', inv x' ∧ μ x' < μ x ∧ Fits st (s x')
  | e, st => Q e st
theorem W_loop {σ : Type} (inv : σ → Prop) (μ : σ → Nat) (s : σ → St) {c : Code} {Q : Exit → St → Prop} (x0 : σ) (h0 : inv x0) (hf : Fits st (s x0)) (hn : ∀ x, (s x).n = st.n)
    (h : ∀ x, inv x → W P c (s x) (loopQ inv μ s x Q)) : W P (.loop c) st Q := fun C a w hP hs => by
  refine wp_loop_ghost (fun n a w => ∃ x, inv x ∧ μ x = n ∧ Sim C (s x) a w) (μ x0) ⟨x0, h0, rfl, hf.2 C a w hs⟩ ?_
  rintro n a w ⟨x, hi, rfl, hs⟩
  refine wp_mono (h x hi C a w hP hs) fun e a' w' ⟨st', h1, h2, h3⟩ => ?_
  cases e with
  | normal =>
    obtain ⟨x', hi', hlt, hfit⟩ := h2
    exact ⟨μ x', hlt, x', hi', rfl, hfit.2 C a' w' h3⟩
  | _ => exact ⟨st', by rw [h1, hn], h2, h3⟩
end Go.Proofs.Ytmffhifkdbfbfaa
namespace Go.Proofs.Ytmffhifkdbfbfaa
open Go.RowKit
set_option linter.unusedVariables false
variable {C : Ctx} {st st' st2 : St} {L L' : Nat → Loc} {a : Act} {w : World} {P : Program}
section fit
variable {ρ : Nat → Option Nat} {es : List (Nat × A)} {ms : List (Nat × Blk)}
theorem fits (hρ : ∀ i, i < 1000 → ρ i = some i) (hf : FitR ρ st es ms) : Fits st (mkSt st.n es ms) := by
  refine ⟨rfl, fun C a w ⟨L, hs⟩ => ⟨fun i => match ρ i with | some j => L j | none => nol, ?_⟩⟩
  generalize hLd : (fun i => match ρ i with | some j => L j | none => (nol : Loc)) = L'
  have hL : ∀ i, L' i = match ρ i with | some j => L j | none => nol := fun i => by rw [← hLd]
  have hmm : ∀ i b', (mkSt st.n es ms).mem i = some b' → (i, b') ∈ ms := fun i b' h => look_mem h
  have hsrc : ∀ i b', (mkSt st.n es ms).mem i = some b' → ∀ b, (L' i).has b → ∃ j, ρ i = some j ∧ (st.mem j).isSome = true ∧ (L j).has b := fun i b' hi b hb => by
    have := hf.hms _ (hmm i b' hi)
    unfold leM at this
    rw [hL] at hb
    cases hj : ρ i with
    | none => rw [hj] at hb; exact (nol_has hb).elim
    | some j =>
      rw [hj] at hb this
      obtain ⟨c, hc, _⟩ := this
      exact ⟨j, rfl, by rw [hc]; rfl, hb⟩
  have hM : ∀ b, Mut C (mkSt st.n es ms) L' b → Mut C st L b := by
    rintro b (hx | ⟨i, hi, hl⟩)
    · exact .inl hx
    · obtain ⟨b', hb'⟩ := Option.isSome_iff_exists.1 hi
      obtain ⟨j, _, h1, h2⟩ := hsrc i b' hb' b hl
      exact .inr ⟨j, h1, h2⟩
  have hfz : ∀ j, (∀ p ∈ ms, ρ p.1 ≠ some j) → (st.mem j).isSome = true → ∀ b, (L j).has b → ¬ Mut C (mkSt st.n es ms) L' b := by
    rintro j hne hj b hb (hx | ⟨i, hi, hl⟩)
    · exact (hs.out j b hj hb).1 hx
    · obtain ⟨b', hb'⟩ := Option.isSome_iff_exists.1 hi
      obtain ⟨q, h0, h1, h2⟩ := hsrc i b' hb' b hl
      have := hs.inj q j b h1 hj h2 hb
      subst this
      exact hne _ (hmm i b' hb') h0
  refine ⟨hs.hn, hs.hd, fun t => ?_, fun i b' hb' => ⟨?_, ?_⟩, fun i j b hi hj hli hlj => ?_, fun i b hi hl => ?_, hs.old, hs.os, hs.tape, hs.output, hs.size, hs.block, hs.pinN, fun i b hp hi => ?_⟩
  · show RepA _ _ _ _ ((look es t).getD .dead) _
    cases ht : look es t with
    | none => exact .dead _
    | some y =>
      have := hf.hes _ (look_mem ht)
      unfold leA at this
      split at this
      · rename_i e; simp only at e; subst e; exact .dead _
      · rename_i cs ds ha hb
        have hr := hs.env t
        have e1 : (t, y).2 = y := rfl
        have ha' : st.env t = .tup cs := ha
        rw [ha'] at hr
        have hb' : y = .tup ds := hb
        subst hb'
        obtain ⟨hl, hg⟩ := leCells_get this
        generalize a.tmps.getD t undef = v at hr
        cases hr with
        | tup _ vs hvs hrr => exact .tup _ _ (by omega) fun i hi => fit_rep1 hs hf hL hM hfz (hg i (by omega) hi) (hrr i (by omega))
      · exact fit_rep2 hs hf hL hM hfz this (hs.env t)
  · have : look ms i = some b' := hb'
    simp [mkSt, this]
  · have := hf.hms _ (hmm i b' hb')
    unfold leM at this
    cases hj : ρ i with
    | none =>
      rw [hj] at this
      obtain ⟨e, k, rfl, h0⟩ := this
      exact ⟨h0, fun q hq => by simp at hq, .inl ⟨rfl, by rw [hL, hj]⟩⟩
    | some j =>
      rw [hj] at this
      obtain ⟨b, hb, hle⟩ := this
      have hrep := (hs.mem j b hb).2
      have hLi : L' i = L j := by rw [hL, hj]
      cases b with
      | obj od =>
        cases b' with
        | row => exact hle.elim
        | box => exact hle.elim
        | obj od' =>
          have e : od = od' := hle
          subst e
          obtain ⟨g, o, hg1, hw, hr⟩ := hrep
          exact ⟨g, o, by rw [hLi]; exact hg1, hw, by rw [hLi]; exact hr.ext (Ext.refl _ _) (fun b _ => hM b) rfl (fun _ _ => rfl)⟩
      | box ty cs =>
        cases b' with
        | row => exact hle.elim
        | obj => exact hle.elim
        | box ty' ds =>
          obtain ⟨rfl, hle⟩ := hle
          obtain ⟨hl, hg⟩ := leCells_get hle
          obtain ⟨g, vs, hg1, hw, hsz, hr⟩ := hrep
          exact ⟨g, vs, by rw [hLi]; exact hg1, hw, by omega, fun q hq => ⟨le1_single (hg q (by omega) hq), fit_rep1 hs hf hL hM hfz (hg q (by omega) hq) (hr q (by omega)).2⟩⟩
      | row e k xs =>
        cases b' with
        | box => exact hle.elim
        | obj => exact hle.elim
        | row e' k' ys =>
          obtain ⟨rfl, rfl, hl, hk, hle⟩ := hle
          obtain ⟨h0, hkk, hq⟩ := hrep
          refine ⟨h0, fun q hq => by rw [← hk q (by omega) hq]; exact hkk q (by omega), ?_⟩
          rcases hq with ⟨hxs, hn⟩ | ⟨g, cur, hg1, hw, hle1, hcm, hsz, hc⟩
          · subst hxs
            exact .inl ⟨List.eq_nil_of_length_eq_zero (by simpa using hl.symm), by rw [hLi]; exact hn⟩
          · refine .inr ⟨g, cur, by rw [hLi]; exact hg1, hw, by rw [hLi]; omega, by rw [hLi]; exact hcm, by rw [hLi]; exact hsz, fun p hp q hq => ?_⟩
            have hq' : q < (xs[p]'(by omega)).length := by rw [hk p (by omega) hp]; exact hq
            obtain ⟨c, hc1, hc2⟩ := hc p (by omega) q hq'
            exact ⟨c, hc1, (hle p (by omega) hp q hq' hq).rep (hc2.ext (Ext.refl _ _) (fun b _ => hM b))⟩
  · obtain ⟨bi, hbi⟩ := Option.isSome_iff_exists.1 hi
    obtain ⟨bj, hbj⟩ := Option.isSome_iff_exists.1 hj
    obtain ⟨p, hp0, hp1, hp2⟩ := hsrc i bi hbi b hli
    obtain ⟨q, hq0, hq1, hq2⟩ := hsrc j bj hbj b hlj
    have := hs.inj p q b hp1 hq1 hp2 hq2
    subst this
    exact hf.inj _ (hmm i bi hbi) _ (hmm j bj hbj) p hp0 hq0
  · obtain ⟨bi, hbi⟩ := Option.isSome_iff_exists.1 hi
    obtain ⟨p, _, hp1, hp2⟩ := hsrc i bi hbi b hl
    exact hs.out p b hp1 hp2
  · obtain ⟨bi, hbi⟩ := Option.isSome_iff_exists.1 hi
    have hi' := hρ i (hs.pinN i b hp).2
    have := hf.hms _ (hmm i bi hbi)
    unfold leM at this
    rw [hi'] at this
    obtain ⟨c, hc, _⟩ := this
    rw [hL, hi']
    exact hs.pin i b hp (by rw [hc]; rfl)
end fit
abbrev FitOk (st : St) (es : List (Nat × A)) (ms : List (Nat × Blk)) : Prop := FitR (srcId st) st es ms
theorem srcId_small (st : St) (i : Nat) (h : i < 1000) : srcId st i = some i := if_pos h
def leF1 : A → A → Prop
  | .t x, .t y => LeT x y
  | _, _ => False
def leFs : List A → List A → Prop
  | [], [] => True
  | x :: l, y :: r => leF1 x y ∧ leFs l r
  | _, _ => False
def leF2 : A → A → Prop
  | .agg cs, .agg ds => leFs cs ds
  | x, y => leF1 x y
def leF2s : List A → List A → Prop
  | [], [] => True
  | x :: l, y :: r => leF2 x y ∧ leF2s l r
  | _, _ => False
def leF : A → A → Prop
  | .tup cs, .tup ds => leF2s cs ds
  | x, y => leF2 x y
def arg3 (st : St) : A → A
  | .tup cs => .tup (cs.map (arg2 st))
  | a => arg2 st a
theorem leF1_rep {M : Nat → Prop} {x y : A} {v : Value} (h : leF1 x y) (hr : RepA st L w M x v) : RepF w M y v := by
  unfold leF1 at h
  split at h
  · exact .t _ _ (h.rep (rep_t hr))
  · exact h.elim
theorem leFs_get : ∀ {cs ds : List A}, leFs cs ds → cs.length = ds.length ∧ ∀ i (hi : i < cs.length) (hi' : i < ds.length), leF1 (cs[i]) (ds[i])
  | [], [], _ => ⟨rfl, fun i hi => by simp at hi⟩
  | x :: l, y :: r, h => by
    obtain ⟨h1, h2⟩ := h
    obtain ⟨h3, h4⟩ := leFs_get h2
    refine ⟨by simp [h3], fun i hi hi' => ?_⟩
    cases i with
    | zero => exact h1
    | succ i => exact h4 i (by simpa using hi) (by simpa using hi')
  | [], y :: r, h => h.elim
  | x :: l, [], h => h.elim
theorem leF2s_get : ∀ {cs ds : List A}, leF2s cs ds → cs.length = ds.length ∧ ∀ i (hi : i < cs.length) (hi' : i < ds.length), leF2 (cs[i]) (ds[i])
  | [], [], _ => ⟨rfl, fun i hi => by simp at hi⟩
  | x :: l, y :: r, h => by
    obtain ⟨h1, h2⟩ := h
    obtain ⟨h3, h4⟩ := leF2s_get h2
    refine ⟨by simp [h3], fun i hi hi' => ?_⟩
    cases i with
    | zero => exact h1
    | succ i => exact h4 i (by simpa using hi) (by simpa using hi')
  | [], y :: r, h => h.elim
  | x :: l, [], h => h.elim
theorem leF2_rep {M : Nat → Prop} {x y : A} {v : Value} (h : leF2 x y) (hr : RepA st L w M x v) : RepF w M y v := by
  unfold leF2 at h
  split at h
  · obtain ⟨hl, hg⟩ := leFs_get h
    cases hr with
    | agg _ vs hsz h1 hr =>
      refine .agg _ vs (by omega) (fun i hi => ?_) (fun i hi => leF1_rep (hg i (by omega) hi) (hr i (by omega)))
      have := hg i (by omega) hi
      unfold leF1 at this
      split at this
      · simp_all [A.single]
      · exact this.elim
  · exact leF1_rep h hr
theorem leF_rep {M : Nat → Prop} {x y : A} {v : Value} (h : leF x y) (hr : RepA st L w M x v) : RepF w M y v := by
  unfold leF at h
  split at h
  · obtain ⟨hl, hg⟩ := leF2s_get h
    cases hr with
    | tup _ vs hsz hr => exact .tup _ vs (by omega) (fun i hi => leF2_rep (hg i (by omega) hi) (hr i (by omega)))
  · exact leF2_rep h hr
def res1 (P : Program) (st : St) : ResultVar → Option A
  | .tmp t => some (st.env t)
  | .cell p ty => match tinfo P ty with | some ti => peek st (st.env p) ti | none => none
def resL (P : Program) (st : St) : List ResultVar → Option (List A)
  | [] => some []
  | r :: l => match res1 P st r, resL P st l with | some x, some l => some (x :: l) | _, _ => none
def resA (P : Program) (st : St) (rs : List ResultVar) : Option A :=
  match resL P st rs with
  | some [x] => some x
  | some l => some (.tup l)
  | none => none
def retQ (P : Program) (fn : Func) (r : A) : Exit → St → Prop
  | .ret, st | .normal, st => ∃ x, resA P st fn.results.toList = some x ∧ leF (arg3 st x) r
  | _, _ => False
end Go.Proofs.Ytmffhifkdbfbfaa
namespace Go.Proofs.Ytmffhifkdbfbfaa
open Go.RowKit
set_option linter.unusedVariables false
variable {C : Ctx} {st st' : St} {L L' : Nat → Loc} {a : Act} {w : World} {P : Program}
def resF (tmps : Array Value) : ResultVar → Sem Value
  | .tmp t => pure (tmps.getD t undef)
  | .cell a t => do loadVar t (← asAddr (tmps.getD a undef))
theorem res1_run (hs : SimL C st L a w) {r : ResultVar} {x : A} (h : res1 P st r = some x) : ∃ v, (resF a.tmps r).run P w = .ok v w ∧ RepA st L w (Mut C st L) x v := by
  cases r with
  | tmp t => cases h; exact ⟨_, rfl, hs.env t⟩
  | cell p ty =>
    unfold res1 at h
    dsimp only at h
    split at h
    · rename_i ti ht
      obtain ⟨u, hu1, hu2⟩ := peek_load hs ht (hs.env p) h
      refine ⟨u, ?_, hu2⟩
      generalize hv : a.tmps.getD p undef = v at hu1
      unfold resF
      simp only [hv]
      cases v <;> simp only [Instr.loadAt, Instr.sureAddr] at hu1 <;> try (simp at hu1; done)
      rename_i ad
      cases ad with
      | none => simp at hu1
      | some ad => simpa [asAddr] using hu1
    · cases h
theorem resL_run (hs : SimL C st L a w) : ∀ (rs : List ResultVar) (l : List A), resL P st rs = some l → ∃ vs : List Value, (rs.mapM (resF a.tmps)).run P w = .ok vs w ∧ vs.length = l.length ∧ ∀ i (hi : i < l.length) (hi' : i < vs.length), RepA st L w (Mut C st L) (l[i]) (vs[i])
  | [], l, h => by
    simp only [resL, Option.some.injEq] at h
    subst h
    exact ⟨[], by simp, rfl, fun i hi => by simp at hi⟩
  | r :: rs, l, h => by
    simp only [resL] at h
    split at h
    · rename_i x l' hx hl'
      cases h
      obtain ⟨v, hv, hr⟩ := res1_run (P := P) hs hx
      obtain ⟨vs, hvs, hlen, hget⟩ := resL_run hs rs l' hl'
      refine ⟨v :: vs, by simp [List.mapM_cons, hv, hvs], by simp [hlen], fun i hi hi' => ?_⟩
      cases i with
      | zero => exact hr
      | succ i => exact hget i (by simpa using hi) (by simpa using hi')
    · cases h
theorem results_eq (fn : Func) (tmps : Array Value) : results fn tmps = (do let vs ← fn.results.mapM (resF tmps); pure (if h : vs.size = 1 then vs[0] else .tuple vs)) := by
  unfold results
  congr 1
theorem res_run (hs : SimL C st L a w) {fn : Func} {x : A} (h : resA P st fn.results.toList = some x) : ∃ v, (results fn a.tmps).run P w = .ok v w ∧ RepA st L w (Mut C st L) x v := by
  unfold resA at h
  have main : ∀ l, resL P st fn.results.toList = some l → ∃ vs : List Value, (results fn a.tmps).run P w = .ok (if h : vs.toArray.size = 1 then vs.toArray[0] else .tuple vs.toArray) w ∧ vs.length = l.length ∧ ∀ i (hi : i < l.length) (hi' : i < vs.length), RepA st L w (Mut C st L) (l[i]) (vs[i]) := fun l hl => by
    obtain ⟨vs, h1, h2, h3⟩ := resL_run (P := P) hs _ _ hl
    exact ⟨vs, by rw [results_eq]; simp [Array.mapM_eq_mapM_toList, h1], h2, h3⟩
  split at h
  · rename_i y hl
    cases h
    obtain ⟨vs, h1, h2, h3⟩ := main _ hl
    have hv : vs.length = 1 := by simpa using h2
    obtain ⟨v, rfl⟩ := List.length_eq_one_iff.1 hv
    exact ⟨v, by simpa using h1, h3 0 (by simp) (by simp)⟩
  · rename_i l hne hl
    cases h
    obtain ⟨vs, h1, h2, h3⟩ := main _ hl
    have hne' : vs.toArray.size ≠ 1 := by
      intro e
      have : l.length = 1 := by simp at e; omega
      obtain ⟨y, rfl⟩ := List.length_eq_one_iff.1 this
      exact hne y rfl
    rw [dif_neg hne'] at h1
    exact ⟨_, h1, .tup _ _ (by simpa using h2) fun i hi => by simpa using h3 i hi (by omega)⟩
  · cases h
theorem arg3_rep (hs : SimL C st L a w) {M' : Nat → Prop} (hM : ∀ b, M' b → Mut C st L b) (hx : ∀ id e k xs, st.mem id = some (.row e k xs) → ∀ b, (L id).has b → ¬ M' b) {x : A} {v : Value} (h : RepA st L w (Mut C st L) x v) : RepA st L w M' (arg3 st x) v := by
  cases x with
  | tup cs =>
    cases h with
    | tup _ vs hsz hr => exact .tup _ vs (by simpa using hsz) fun i hi => by simp only [List.getElem_map]; exact arg_rep hs hM (fun id _ => hx id) (hr i (by simpa using hi))
  | _ => exact (fun q => arg_rep hs hM q h) (fun id _ => hx id)
def entry (n : Nat) (args : List A) : St := ⟨n, fun t => (args[t]?).getD .dead, fun _ => none, fun _ => false⟩
theorem fn_pure {f : FuncId} {fn : Func} {c : Code} {args : List A} {r : A} (hf : P.funcs[f]? = some fn) (hb : fn.body = some c) (hpl : plainFn P f = true) (hn : args.length ≤ fn.ntmps) (h : W P c (entry fn.ntmps args) (retQ P fn r)) : FnP P f args r := by
  refine ⟨hpl, fun w X vals hX hsz hargs => ?_⟩
  refine calls_of_wp hf hb ?_
  let C : Ctx := ⟨P, X, fun _ => False, w, fun _ => none⟩
  have hlen : (vals ++ Array.replicate (fn.ntmps - vals.size) undef).size = fn.ntmps := by simp; omega
  have hs : SimL C (entry fn.ntmps args) (fun _ => nol) { tmps := vals ++ Array.replicate (fn.ntmps - vals.size) undef, defers := [] } w := by
    have hM : ∀ b, Mut C (entry fn.ntmps args) (fun _ => nol) b → X b := by
      rintro b (hx | ⟨i, hi, _⟩)
      · exact hx
      · cases hi
    refine ⟨hlen, rfl, fun t => ?_, fun id blk h => (by cases h), fun i j b hi => (by cases hi), fun i b hi => (by cases hi), hX, rfl, rfl, rfl, Nat.le_refl _, fun _ _ _ => rfl, fun _ _ h => (by cases h), fun _ _ h => (by cases h)⟩
    show RepA _ _ _ _ ((args[t]?).getD .dead) _
    cases ht : args[t]? with
    | none => exact .dead _
    | some x =>
      obtain ⟨hlt, rfl⟩ := List.getElem?_eq_some_iff.1 ht
      have e : (vals ++ Array.replicate (fn.ntmps - vals.size) undef).getD t undef = vals.getD t undef := by
        simp only [Array.getD_eq_getD_getElem?]
        rw [Array.getElem?_append_left (by omega)]
      rw [e]
      exact RepA.ext (hargs t hlt) (Ext.refl _ _) (fun b _ h => hM b h) (fun id hi => by simp at hi) (fun id hi => by simp at hi)
  refine wp_mono (h C _ w rfl ⟨_, hs⟩) ?_
  rintro e a' w' ⟨st', hn', hq, ⟨L', hs'⟩⟩
  have fin : (∃ x, resA P st' fn.results.toList = some x ∧ leF (arg3 st' x) r) → a'.defers = [] ∧ ∃ v, (results fn a'.tmps).run P w' = .ok v w' ∧ ∃ v', Ending.returned v = .returned v' ∧ Below w.heap.size w w' ∧ RepF w' X r v' := by
    rintro ⟨x, hx, hle⟩
    obtain ⟨v, hv1, hv2⟩ := res_run hs' hx
    refine ⟨hs'.hd, v, hv1, v, rfl, ⟨hs'.os, hs'.tape, hs'.output, hs'.size, fun k hk => hs'.block k hk (fun h => h)⟩, leF_rep hle (arg3_rep hs' (fun b h => .inl h) (fun id e k xs hm b hb hx => ?_) hv2)⟩
    exact (hs'.out id b (by rw [hm]; rfl) hb).1 hx
  cases e with
  | ret => exact fin hq
  | normal => exact fin hq
  | _ => exact hq.elim
end Go.Proofs.Ytmffhifkdbfbfaa
namespace Go.Proofs.Ytmffhifkdbfbfaa
open Go.RowKit
set_option linter.unusedVariables false
variable {C : Ctx} {st st' st2 : St} {L L' : Nat → Loc} {a : Act} {w : World} {P : Program}
def entryIO (n : Nat) (args : List A) (m : List (Nat × Blk)) : St := ⟨n, fun t => (args[t]?).getD .dead, look m, fun i => (look m i).isSome⟩
def retIO (P : Program) (fn : Func) (r : A) (m' : List (Nat × Blk)) : Exit → St → Prop
  | .ret, st | .normal, st => ∃ ρ : Nat → Option Nat, (∀ i, i < 1000 → ρ i = some i) ∧ ∃ x, resA P st fn.results.toList = some x ∧ le3 ρ st m' x r ∧ FitR ρ st [] m'
  | _, _ => False
theorem fn_io {f : FuncId} {fn : Func} {c : Code} {args : List A} {m m' : List (Nat × Blk)} {r : A} (hf : P.funcs[f]? = some fn) (hb : fn.body = some c) (hpl : plainFn P f = true) (hn : args.length ≤ fn.ntmps) (h9 : fn.ntmps ≤ 900) (h : W P c (entryIO fn.ntmps args m) (retIO P fn r m')) : FnIO P f args m r m' := by
  refine ⟨hpl, fun C L vals hP hpin hs0 hsz hargs => ?_⟩
  refine calls_of_wp hf hb ?_
  have hlen : (vals ++ Array.replicate (fn.ntmps - vals.size) undef).size = fn.ntmps := by simp; omega
  have hmu : Mut C (entryIO fn.ntmps args m) L = Mut C (mst m) L := rfl
  have hs : SimL C (entryIO fn.ntmps args m) L { tmps := vals ++ Array.replicate (fn.ntmps - vals.size) undef, defers := [] } C.w0 := by
    refine ⟨hlen, rfl, fun t => ?_, fun id blk hb => ⟨(hs0.mem id blk hb).1, ?_⟩, hs0.inj, hs0.out, hs0.old, hs0.os, hs0.tape, hs0.output, hs0.size, hs0.block, fun id b hp => ⟨Nat.le_trans h9 (hpin id b hp), (hs0.pinN id b hp).2⟩, hs0.pin⟩
    · show RepA _ _ _ _ ((args[t]?).getD .dead) _
      cases ht : args[t]? with
      | none => exact .dead _
      | some x =>
        obtain ⟨hlt, rfl⟩ := List.getElem?_eq_some_iff.1 ht
        have e : (vals ++ Array.replicate (fn.ntmps - vals.size) undef).getD t undef = vals.getD t undef := by
          simp only [Array.getD_eq_getD_getElem?]
          rw [Array.getElem?_append_left (by omega)]
        rw [e]
        exact (hargs t hlt).same rfl rfl
    · exact (hs0.mem id blk hb).2.ext (Ext.refl _ _) (fun _ _ h => h) (fun i h => h) (shape_like _ L) rfl (fun _ _ => rfl)
  refine wp_mono (h C _ _ hP ⟨_, hs⟩) ?_
  rintro e a' w' ⟨st', hn', hq, ⟨L', hs'⟩⟩
  have fin : (∃ ρ : Nat → Option Nat, (∀ i, i < 1000 → ρ i = some i) ∧ ∃ x, resA P st' fn.results.toList = some x ∧ le3 ρ st' m' x r ∧ FitR ρ st' [] m') → a'.defers = [] ∧ ∃ v, (results fn a'.tmps).run P w' = .ok v w' ∧ ∃ v' L', Ending.returned v = .returned v' ∧ SimL C (mst m') L' noAct w' ∧ RepA (mst m') L' w' (Mut C (mst m') L') r v' := by
    rintro ⟨ρ, hρ, x, hx, hle, hfit⟩
    obtain ⟨v, hv1, hv2⟩ := res_run hs' hx
    obtain ⟨h1, h2⟩ := fit_mst hs' hρ hfit
    exact ⟨hs'.hd, v, hv1, v, _, rfl, h1, h2 hle hv2⟩
  cases e with
  | ret => exact fin hq
  | normal => exact fin hq
  | _ => exact hq.elim
end Go.Proofs.Ytmffhifkdbfbfaa
