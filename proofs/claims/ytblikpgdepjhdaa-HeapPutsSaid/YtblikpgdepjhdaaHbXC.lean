/- Parts of the proof. -/
import Derived.Test.YtblikpgdepjhdaaHbXA
import Derived.Deep.LoopGhost
import Derived.Orders
namespace Go.Proofs.Ytblikpgdepjhdaa
open Go.RowKit
set_option linter.unusedVariables false
variable {C : Ctx} {st st' : St} {L L' : Nat → Loc} {a : Act} {w : World} {P : Program}
inductive LeT : T → T → Prop
  | refl (x : T) : LeT x x
  | nil (k : Nat) : LeT (.v (.slice none 0 0)) (.sl k [])
  | nil0 (k k' : Nat) : LeT (.sl k []) (.sl k' [])
  | sl (k : Nat) (xs ys : List (List T)) (hl : xs.length = ys.length) (hk : ∀ i (hi : i < xs.length) (hi' : i < ys.length), (xs[i]).length = (ys[i]).length)
      (h : ∀ i (hi : i < xs.length) (hi' : i < ys.length) j (hj : j < (xs[i]).length) (hj' : j < (ys[i]).length), LeT (xs[i][j]) (ys[i][j])) : LeT (.sl k xs) (.sl k ys)
theorem LeT.rep {w : World} {M : Nat → Prop} {x y : T} (h : LeT x y) : ∀ {v : Value}, RepT w M x v → RepT w M y v := by
  induction h with
  | refl x => intro v h; exact h
  | nil k => intro v h; cases h; exact .nil k none 0 (Nat.zero_le _)
  | nil0 k k' =>
    intro v h
    cases h with
    | nil _ a cap hcm => exact .nil k' a cap hcm
    | sl _ _ b off cap c hb hM hcap hcm hk hc hr => exact .sl k' [] b off cap c hb hM hcap hcm (fun i hi => by simp at hi) (fun i hi => by simp at hi) (fun i hi => by simp at hi)
  | sl k xs ys hl hk h ih =>
    intro v h
    cases h with
    | nil _ a cap hcm =>
      have : ys = [] := List.eq_nil_of_length_eq_zero (by simpa using hl.symm)
      subst this
      exact .nil k a cap hcm
    | sl _ _ b off cap c hb hM hcap hcm hkk hc hr =>
      rw [hl]
      refine .sl k ys b off cap c hb hM (by omega) hcm (fun i hi => by rw [← hk i (by omega) hi]; exact hkk i (by omega)) (fun i hi j hj => hc i (by omega) j hj) (fun i hi j hj => ?_)
      have hj' : j < (xs[i]'(by omega)).length := by rw [hk i (by omega) hi]; exact hj
      exact ih i (by omega) hi j hj' hj (hr i (by omega) j hj')
theorem LeT.map {α : Type} {k : Nat} (f : α → List T) (l : List α) (xs : List (List T)) (h : xs = l.map f) : LeT (.sl k xs) (.sl k (l.map f)) := by subst h; exact .refl _
def look {α : Type} : List (Nat × α) → Nat → Option α
  | [], _ => none
  | (k, x) :: l, i => if i = k then some x else look l i
def mkSt (n : Nat) (es : List (Nat × A)) (ms : List (Nat × Blk)) : St := ⟨n, fun t => (look es t).getD .dead, look ms, fun i => (look ms i).isSome⟩
theorem look_mem {α : Type} : ∀ {l : List (Nat × α)} {i : Nat} {x : α}, look l i = some x → (i, x) ∈ l
  | [], i, x, h => by cases h
  | (k, y) :: l, i, x, h => by
    unfold look at h
    split at h
    · rename_i e; subst e; cases h; exact List.mem_cons_self
    · exact List.mem_cons_of_mem _ (look_mem h)
def src1 (i : Nat) : A → Option Nat
  | .ref j => some j
  | .t (.v (.slice none 0 0)) => none
  | _ => some i
def srcC (i c : Nat) : Option Blk → Option Nat
  | some (.box _ cells) => src1 i ((cells[c]?).getD .dead)
  | _ => some i
def srcId (st : St) (i : Nat) : Option Nat :=
  if i < 1000 then some i
  else if i < 100000 then src1 i (st.env (i - 1000))
  else srcC i ((i - 100000) % 100) (st.mem ((i - 100000) / 100))
def le1 (ρ : Nat → Option Nat) (st : St) (ms : List (Nat × Blk)) : A → A → Prop
  | .t x, .t y => LeT x y
  | .t x, .ref i => x = .v (.slice none 0 0) ∧ ρ i = none ∧ ∃ e k, look ms i = some (.row e k [])
  | .ref j, .ref i => ρ i = some j ∧ (look ms i).isSome = true
  | .ref j, .t y => ∃ e k xs, st.mem j = some (.row e k xs) ∧ LeT (.sl k xs) y ∧ ∀ p ∈ ms, ρ p.1 ≠ some j
  | .ptr j o, .ptr i o' => ρ i = some j ∧ o = o' ∧ (look ms i).isSome = true
  | .ifc t j o, .ifc t' i o' => ρ i = some j ∧ (t = t' ∧ o = o') ∧ (look ms i).isSome = true
  | .rptr j p q, .rptr i p' q' => ρ i = some j ∧ p = p' ∧ q = q' ∧ (look ms i).isSome = true
  | .ob j, .ob i => ρ i = some j ∧ (look ms i).isSome = true
  | .fel x, .fel y => x = y
  | _, _ => False
def leCells (ρ : Nat → Option Nat) (st : St) (ms : List (Nat × Blk)) : List A → List A → Prop
  | [], [] => True
  | x :: l, y :: r => le1 ρ st ms x y ∧ leCells ρ st ms l r
  | _, _ => False
def le2 (ρ : Nat → Option Nat) (st : St) (ms : List (Nat × Blk)) : A → A → Prop
  | .agg cs, .agg ds => leCells ρ st ms cs ds
  | x, y => le1 ρ st ms x y
def leA (ρ : Nat → Option Nat) (st : St) (ms : List (Nat × Blk)) : A → A → Prop
  | _, .dead => True
  | .tup cs, .tup ds => leCells ρ st ms cs ds
  | x, y => le2 ρ st ms x y
def leRows : List (List T) → List (List T) → Prop
  | xs, ys => xs.length = ys.length ∧ (∀ i (hi : i < xs.length) (hi' : i < ys.length), (xs[i]).length = (ys[i]).length) ∧ ∀ i (hi : i < xs.length) (hi' : i < ys.length) j (hj : j < (xs[i]).length) (hj' : j < (ys[i]).length), LeT (xs[i][j]) (ys[i][j])
theorem leRows_refl (xs : List (List T)) : leRows xs xs := ⟨rfl, fun _ _ _ => rfl, fun _ _ _ _ _ _ => .refl _⟩
def leB (ρ : Nat → Option Nat) (st : St) (ms : List (Nat × Blk)) : Blk → Blk → Prop
  | .box ty cs, .box ty' ds => ty = ty' ∧ leCells ρ st ms cs ds
  | .row e k xs, .row e' k' ys => e = e' ∧ k = k' ∧ leRows xs ys
  | .obj x, .obj y => x = y
  | _, _ => False
def leM (ρ : Nat → Option Nat) (st : St) (ms : List (Nat × Blk)) (p : Nat × Blk) : Prop :=
  match ρ p.1 with
  | some j => ∃ b, st.mem j = some b ∧ leB ρ st ms b p.2
  | none => ∃ e k, p.2 = .row e k [] ∧ 0 < k
theorem le1_single {ρ : Nat → Option Nat} {ms : List (Nat × Blk)} {x y : A} (h : le1 ρ st ms x y) : y.single = true := by
  unfold le1 at h
  split at h <;> first | rfl | exact h.elim
theorem leCells_get {ρ : Nat → Option Nat} {ms : List (Nat × Blk)} : ∀ {cs ds : List A}, leCells ρ st ms cs ds → cs.length = ds.length ∧ ∀ i (hi : i < cs.length) (hi' : i < ds.length), le1 ρ st ms (cs[i]) (ds[i])
  | [], [], _ => ⟨rfl, fun i hi => by simp at hi⟩
  | x :: l, y :: r, h => by
    obtain ⟨h1, h2⟩ := h
    obtain ⟨h3, h4⟩ := leCells_get h2
    refine ⟨by simp [h3], fun i hi hi' => ?_⟩
    cases i with
    | zero => exact h1
    | succ i => exact h4 i (by simpa using hi) (by simpa using hi')
  | [], y :: r, h => h.elim
  | x :: l, [], h => h.elim
section fit
variable {ρ : Nat → Option Nat} {es : List (Nat × A)} {ms : List (Nat × Blk)}
structure FitR (ρ : Nat → Option Nat) (st : St) (es : List (Nat × A)) (ms : List (Nat × Blk)) : Prop where
  hes : ∀ p ∈ es, leA ρ st ms (st.env p.1) p.2
  hms : ∀ p ∈ ms, leM ρ st ms p
  inj : ∀ p ∈ ms, ∀ q ∈ ms, ∀ j, ρ p.1 = some j → ρ q.1 = some j → p.1 = q.1
theorem fit_rep1 (hs : SimL C st L a w) (hf : FitR ρ st es ms) {L' : Nat → Loc} (hL : ∀ i, L' i = match ρ i with | some j => L j | none => nol) {M' : Nat → Prop}
    (hM : ∀ b, M' b → Mut C st L b) (hfz : ∀ j, (∀ p ∈ ms, ρ p.1 ≠ some j) → (st.mem j).isSome = true → ∀ b, (L j).has b → ¬ M' b) {n : Nat} {x y : A} {v : Value} (h : le1 ρ st ms x y) (hr : RepA st L w (Mut C st L) x v) : RepA (mkSt n es ms) L' w M' y v := by
  have hmem : ∀ {i : Nat} {b' : Blk}, look ms i = some b' → ∀ {j}, ρ i = some j → ∃ b, st.mem j = some b ∧ leB ρ st ms b b' := fun {i b'} hi {j} hj => by
    have := hf.hms _ (look_mem hi)
    unfold leM at this
    rw [hj] at this
    exact this
  unfold le1 at h
  split at h
  · exact .t _ _ (h.rep ((rep_t hr).ext (Ext.refl _ _) (fun b _ => hM b)))
  · obtain ⟨rfl, hn, e, k, hl⟩ := h
    have := rep_val hr
    subst this
    refine .ref _ _ rfl (by simp [mkSt, hl]) fun e' k' xs' hm => ?_
    have : look ms _ = some (.row e' k' xs') := hm
    rw [hl] at this
    cases this
    rw [hL, hn]; rfl
  · rename_i j i
    obtain ⟨hj, hl⟩ := h
    cases hr with
    | ref _ _ h1 hus hq =>
      refine .ref _ _ h1 hl fun e' k' xs' hm => ?_
      obtain ⟨b, hb, hle⟩ := hmem hm hj
      cases b with
      | box => exact hle.elim
      | obj => exact hle.elim
      | row e k xs =>
        rw [hL, hj]
        have := hq _ _ _ hb
        rw [this, hle.2.2.1]
  · rename_i j y
    obtain ⟨e, k, xs, hm, hle, hne⟩ := h
    cases hr with
    | ref _ _ h1 hus hq =>
      rw [hq _ _ _ hm]
      exact .t _ _ (hle.rep (row_rep (hs.mem _ _ hm).2 (fun b hb => ⟨(hs.out j b (by rw [hm]; rfl) (.inl hb)).2.1, hfz j hne (by rw [hm]; rfl) b (.inl hb)⟩) (fun b _ => hM b)))
  · rename_i j o i o'
    obtain ⟨hj, rfl, hl⟩ := h
    cases hr with
    | ptr _ _ _ h1 hus hq =>
      refine .ptr _ _ _ h1 hl fun ty cs hm => ?_
      obtain ⟨b, hb, hle⟩ := hmem hm hj
      cases b with
      | box ty' cs' => rw [hL, hj]; exact hq _ _ hb
      | row => exact hle.elim
      | obj => exact hle.elim
  · rename_i t1 j o t2 i o'
    obtain ⟨hj, ⟨rfl, rfl⟩, hl⟩ := h
    cases hr with
    | ifc _ _ _ _ h1 hus hq =>
      refine .ifc _ _ _ _ h1 hl fun ty cs hm => ?_
      obtain ⟨b, hb, hle⟩ := hmem hm hj
      cases b with
      | box ty' cs' => rw [hL, hj]; exact hq _ _ hb
      | row => exact hle.elim
      | obj => exact hle.elim
  · rename_i j p q i p' q'
    obtain ⟨hj, rfl, rfl, hl⟩ := h
    cases hr with
    | rptr _ _ _ _ h1 hus hq =>
      refine .rptr _ _ _ _ h1 hl fun e k xs hm => ?_
      obtain ⟨b, hb, hle⟩ := hmem hm hj
      cases b with
      | box => exact hle.elim
      | obj => exact hle.elim
      | row e' k' xs' => rw [hL, hj, ← hle.2.1]; exact hq _ _ _ hb
  · rename_i j i
    obtain ⟨hj, hl⟩ := h
    cases hr with
    | ob _ _ h1 hus hq =>
      refine .ob _ _ h1 hl fun od hm => ?_
      obtain ⟨b, hb, hle⟩ := hmem hm hj
      cases b with
      | box => exact hle.elim
      | row => exact hle.elim
      | obj od' =>
        have e : od' = od := hle
        subst e
        rw [hL, hj]; exact hq _ hb
  · subst h
    cases hr with
    | fel _ b off c hb hm hc hr => exact .fel _ b off c hb (fun h => hm (hM b h)) hc fun j hj => (hr j hj).ext (Ext.refl _ _) (fun b _ => hM b)
  · exact h.elim
theorem fit_rep2 (hs : SimL C st L a w) (hf : FitR ρ st es ms) {L' : Nat → Loc} (hL : ∀ i, L' i = match ρ i with | some j => L j | none => nol) {M' : Nat → Prop}
    (hM : ∀ b, M' b → Mut C st L b) (hfz : ∀ j, (∀ p ∈ ms, ρ p.1 ≠ some j) → (st.mem j).isSome = true → ∀ b, (L j).has b → ¬ M' b) {n : Nat} {x y : A} {v : Value} (h : le2 ρ st ms x y) (hr : RepA st L w (Mut C st L) x v) : RepA (mkSt n es ms) L' w M' y v := by
  unfold le2 at h
  split at h
  · rename_i cs ds
    obtain ⟨hl, hg⟩ := leCells_get h
    cases hr with
    | agg _ vs hsz h1 hr =>
      exact .agg ds vs (by omega) (fun i hi => le1_single (hg i (by omega) hi)) (fun i hi => fit_rep1 hs hf hL hM hfz (hg i (by omega) hi) (hr i (by omega)))
  · exact fit_rep1 hs hf hL hM hfz h hr
end fit
end Go.Proofs.Ytblikpgdepjhdaa
namespace Go.Proofs.Ytblikpgdepjhdaa
open Go.RowKit
set_option linter.unusedVariables false
variable {C : Ctx} {st st' st2 : St} {L L' : Nat → Loc} {a : Act} {w : World} {P : Program}
def noAct : Act := { tmps := #[], defers := [] }
abbrev mst (m : List (Nat × Blk)) : St := mkSt 0 [] m
def FnIO (P : Program) (f : FuncId) (args : List A) (m : List (Nat × Blk)) (r : A) (m' : List (Nat × Blk)) : Prop :=
  plainFn P f = true ∧ ∀ (C : Ctx) (L : Nat → Loc) (vals : Array Value), C.P = P → (∀ id b, C.pin id = some b → 900 ≤ id) → SimL C (mst m) L noAct C.w0 → vals.size = args.length →
    (∀ i (hi : i < args.length), RepA (mst m) L C.w0 (Mut C (mst m) L) (args[i]) (vals.getD i undef)) →
    Calls P f vals C.w0 fun e w' => ∃ v L', e = .returned v ∧ SimL C (mst m') L' noAct w' ∧ RepA (mst m') L' w' (Mut C (mst m') L') r v
def le3s (ρ : Nat → Option Nat) (st : St) (ms : List (Nat × Blk)) : List A → List A → Prop
  | [], [] => True
  | x :: l, y :: r => le2 ρ st ms x y ∧ le3s ρ st ms l r
  | _, _ => False
def le3 (ρ : Nat → Option Nat) (st : St) (ms : List (Nat × Blk)) : A → A → Prop
  | .tup cs, .tup ds => le3s ρ st ms cs ds
  | x, y => le2 ρ st ms x y
theorem le3s_get {ρ : Nat → Option Nat} {ms : List (Nat × Blk)} : ∀ {cs ds : List A}, le3s ρ st ms cs ds → cs.length = ds.length ∧ ∀ i (hi : i < cs.length) (hi' : i < ds.length), le2 ρ st ms (cs[i]) (ds[i])
  | [], [], _ => ⟨rfl, fun i hi => by simp at hi⟩
  | x :: l, y :: r, h => by
    obtain ⟨h1, h2⟩ := h
    obtain ⟨h3, h4⟩ := le3s_get h2
    refine ⟨by simp [h3], fun i hi hi' => ?_⟩
    cases i with
    | zero => exact h1
    | succ i => exact h4 i (by simpa using hi) (by simpa using hi')
  | [], y :: r, h => h.elim
  | x :: l, [], h => h.elim
section fit
variable {ρ : Nat → Option Nat} {ms : List (Nat × Blk)}
def locOf (ρ : Nat → Option Nat) (L : Nat → Loc) : Nat → Loc := fun i => match ρ i with | some j => L j | none => nol
theorem fit_src (hf : FitR ρ st [] ms) {i : Nat} {b' : Blk} (hi : look ms i = some b') {b : Nat} (hb : (locOf ρ L i).has b) : ∃ j, ρ i = some j ∧ (st.mem j).isSome = true ∧ (L j).has b := by
  have := hf.hms _ (look_mem hi)
  unfold leM at this
  unfold locOf at hb
  cases hj : ρ i with
  | none => rw [hj] at hb; exact (nol_has hb).elim
  | some j =>
    rw [hj] at hb this
    obtain ⟨c, hc, _⟩ := this
    exact ⟨j, rfl, by rw [hc]; rfl, hb⟩
theorem fit_fz (hs : SimL C st L a w) (hf : FitR ρ st [] ms) : ∀ j, (∀ p ∈ ms, ρ p.1 ≠ some j) → (st.mem j).isSome = true → ∀ b, (L j).has b → ¬ (∃ i, (look ms i).isSome = true ∧ (locOf ρ L i).has b) := by
  rintro j hne hj b hb ⟨i, hi, hl⟩
  obtain ⟨b', hb'⟩ := Option.isSome_iff_exists.1 hi
  obtain ⟨q, h0, h1, h2⟩ := fit_src hf hb' hl
  have := hs.inj q j b h1 hj h2 hb
  subst this
  exact hne _ (look_mem hb') h0
theorem fit_repB (hs : SimL C st L a w) (hf : FitR ρ st [] ms) {M' : Nat → Prop} (hM : ∀ b, M' b → Mut C st L b)
    (hfz : ∀ j, (∀ p ∈ ms, ρ p.1 ≠ some j) → (st.mem j).isSome = true → ∀ b, (L j).has b → ¬ M' b) {i : Nat} {b' : Blk} (hi : look ms i = some b') : RepB (mkSt 0 [] ms) (locOf ρ L) w M' i b' := by
  have hLo : ∀ i, locOf ρ L i = match ρ i with | some j => L j | none => nol := fun i => rfl
  have := hf.hms _ (look_mem hi)
  unfold leM at this
  cases hj : ρ i with
  | none =>
    rw [hj] at this
    obtain ⟨e, k, rfl, h0⟩ := this
    exact ⟨h0, fun q hq => by simp at hq, .inl ⟨rfl, by rw [hLo, hj]⟩⟩
  | some j =>
    rw [hj] at this
    obtain ⟨b, hb, hle⟩ := this
    have hrep := (hs.mem j b hb).2
    have hLi : locOf ρ L i = L j := by rw [hLo, hj]
    cases b with
    | obj od =>
      cases b' with
      | row => exact hle.elim
      | box => exact hle.elim
      | obj od' =>
        have e : od = od' := hle
        subst e
        obtain ⟨g, o, hg1, hw, hr⟩ := hrep
        exact ⟨g, o, by rw [hLi]; exact hg1, hw, by rw [hLi]; exact hr.ext (Ext.refl _ _) (fun b _ => hM b) rfl (fun _ _ => rfl)⟩
    | box ty cs =>
      cases b' with
      | row => exact hle.elim
      | obj => exact hle.elim
      | box ty' ds =>
        obtain ⟨rfl, hle⟩ := hle
        obtain ⟨hl, hg⟩ := leCells_get hle
        obtain ⟨g, vs, hg1, hw, hsz, hr⟩ := hrep
        exact ⟨g, vs, by rw [hLi]; exact hg1, hw, by omega, fun q hq => ⟨le1_single (hg q (by omega) hq), fit_rep1 hs hf hLo hM hfz (hg q (by omega) hq) (hr q (by omega)).2⟩⟩
    | row e k xs =>
      cases b' with
      | box => exact hle.elim
      | obj => exact hle.elim
      | row e' k' ys =>
        obtain ⟨rfl, rfl, hl, hk, hle⟩ := hle
        obtain ⟨h0, hkk, hq⟩ := hrep
        refine ⟨h0, fun q hq => by rw [← hk q (by omega) hq]; exact hkk q (by omega), ?_⟩
        rcases hq with ⟨hxs, hn⟩ | ⟨g, cur, hg1, hw, hle1, hcm, hsz, hc⟩
        · subst hxs
          exact .inl ⟨List.eq_nil_of_length_eq_zero (by simpa using hl.symm), by rw [hLi]; exact hn⟩
        · refine .inr ⟨g, cur, by rw [hLi]; exact hg1, hw, by rw [hLi]; omega, by rw [hLi]; exact hcm, by rw [hLi]; exact hsz, fun p hp q hq => ?_⟩
          have hq' : q < (xs[p]'(by omega)).length := by rw [hk p (by omega) hp]; exact hq
          obtain ⟨c, hc1, hc2⟩ := hc p (by omega) q hq'
          exact ⟨c, hc1, (hle p (by omega) hp q hq' hq).rep (hc2.ext (Ext.refl _ _) (fun b _ => hM b))⟩
theorem fit_rep3 (hs : SimL C st L a w) (hf : FitR ρ st [] ms) {M' : Nat → Prop} (hM : ∀ b, M' b → Mut C st L b)
    (hfz : ∀ j, (∀ p ∈ ms, ρ p.1 ≠ some j) → (st.mem j).isSome = true → ∀ b, (L j).has b → ¬ M' b) {x y : A} {v : Value} (h : le3 ρ st ms x y) (hr : RepA st L w (Mut C st L) x v) : RepA (mkSt 0 [] ms) (locOf ρ L) w M' y v := by
  have hLo : ∀ i, locOf ρ L i = match ρ i with | some j => L j | none => nol := fun i => rfl
  unfold le3 at h
  split at h
  · obtain ⟨hl, hg⟩ := le3s_get h
    cases hr with
    | tup _ vs hsz hr => exact .tup _ vs (by omega) fun i hi => fit_rep2 hs hf hLo hM hfz (hg i (by omega) hi) (hr i (by omega))
  · exact fit_rep2 hs hf hLo hM hfz h hr
theorem fit_mst (hs : SimL C st L a w) (hρ : ∀ i, i < 1000 → ρ i = some i) (hf : FitR ρ st [] ms) : SimL C (mst ms) (locOf ρ L) noAct w ∧ ∀ {x y : A} {v : Value}, le3 ρ st ms x y → RepA st L w (Mut C st L) x v → RepA (mst ms) (locOf ρ L) w (Mut C (mst ms) (locOf ρ L)) y v := by
  have hM : ∀ b, Mut C (mst ms) (locOf ρ L) b → Mut C st L b := by
    rintro b (hx | ⟨i, hi, hl⟩)
    · exact .inl hx
    · obtain ⟨b', hb'⟩ := Option.isSome_iff_exists.1 hi
      obtain ⟨j, _, h1, h2⟩ := fit_src hf hb' hl
      exact .inr ⟨j, h1, h2⟩
  have hfz : ∀ j, (∀ p ∈ ms, ρ p.1 ≠ some j) → (st.mem j).isSome = true → ∀ b, (L j).has b → ¬ Mut C (mst ms) (locOf ρ L) b := by
    rintro j hne hj b hb (hx | h)
    · exact (hs.out j b hj hb).1 hx
    · exact fit_fz hs hf j hne hj b hb h
  refine ⟨⟨rfl, rfl, fun t => .dead _, fun i b' hb' => ⟨?_, fit_repB hs hf hM hfz hb'⟩, fun i j b hi hj hli hlj => ?_, fun i b hi hl => ?_, hs.old, hs.os, hs.tape, hs.output, hs.size, hs.block, fun i b hp => ⟨Nat.zero_le _, (hs.pinN i b hp).2⟩, fun i b hp hi => ?_⟩, fun h hr => fit_rep3 hs hf hM hfz h hr⟩
  · have : look ms i = some b' := hb'
    simp [mkSt, this]
  · obtain ⟨bi, hbi⟩ := Option.isSome_iff_exists.1 hi
    obtain ⟨bj, hbj⟩ := Option.isSome_iff_exists.1 hj
    obtain ⟨p, hp0, hp1, hp2⟩ := fit_src hf hbi hli
    obtain ⟨q, hq0, hq1, hq2⟩ := fit_src hf hbj hlj
    have := hs.inj p q b hp1 hq1 hp2 hq2
    subst this
    exact hf.inj _ (look_mem hbi) _ (look_mem hbj) p hp0 hq0
  · obtain ⟨bi, hbi⟩ := Option.isSome_iff_exists.1 hi
    obtain ⟨p, _, hp1, hp2⟩ := fit_src hf hbi hl
    exact hs.out p b hp1 hp2
  · obtain ⟨bi, hbi⟩ := Option.isSome_iff_exists.1 hi
    have hi' := hρ i (hs.pinN i b hp).2
    have := hf.hms _ (look_mem hbi)
    unfold leM at this
    rw [hi'] at this
    obtain ⟨c, hc, _⟩ := this
    show (locOf ρ L i).blk = some b
    unfold locOf
    rw [hi']
    exact hs.pin i b hp (by rw [hc]; rfl)
end fit
end Go.Proofs.Ytblikpgdepjhdaa
namespace Go.Proofs.Ytblikpgdepjhdaa
open Go.RowKit
set_option linter.unusedVariables false
variable {C : Ctx} {st st' st2 : St} {L L' : Nat → Loc} {a : Act} {w : World} {P : Program}
def ren1 (ν : Nat → Nat) : A → A
  | .ref i => .ref (ν i)
  | .ptr i o => .ptr (ν i) o
  | .ifc t i o => .ifc t (ν i) o
  | .rptr i p q => .rptr (ν i) p q
  | .ob i => .ob (ν i)
  | x => x
def ren2 (ν : Nat → Nat) : A → A
  | .agg cs => .agg (cs.map (ren1 ν))
  | x => ren1 ν x
def ren3 (ν : Nat → Nat) : A → A
  | .tup cs => .tup (cs.map (ren2 ν))
  | x => ren2 ν x
def Blk.ren (ν : Nat → Nat) : Blk → Blk
  | .box ty cells => .box ty (cells.map (ren1 ν))
  | b => b
def fnd : List (Nat × Blk) → (Nat → Nat) → Nat → Option (Nat × Blk)
  | [], _, _ => none
  | p :: l, ν, i => if i = ν p.1 then some p else fnd l ν i
def St.back (st : St) (J : List Nat) (m' : List (Nat × Blk)) (ν : Nat → Nat) : St :=
  { st with mem := fun i => match fnd m' ν i with | some p => some (p.2.ren ν) | none => if J.contains i then none else st.mem i,
            used := fun i => match fnd m' ν i with | some _ => true | none => st.used i }
def St.only (st : St) (J : List Nat) : St := { st with mem := fun i => if J.contains i then st.mem i else none }
def pers (id : Nat) : Bool := Nat.ble 900 id && Nat.blt id 1000
theorem fnd_mem : ∀ {l : List (Nat × Blk)} {ν : Nat → Nat} {i : Nat} {p : Nat × Blk}, fnd l ν i = some p → p ∈ l ∧ ν p.1 = i
  | [], ν, i, p, h => by cases h
  | q :: l, ν, i, p, h => by
    unfold fnd at h
    split at h
    · rename_i e; cases h; exact ⟨List.mem_cons_self, e.symm⟩
    · obtain ⟨h1, h2⟩ := fnd_mem h; exact ⟨List.mem_cons_of_mem _ h1, h2⟩
theorem fnd_none : ∀ {l : List (Nat × Blk)} {ν : Nat → Nat} {i : Nat}, fnd l ν i = none → ∀ p ∈ l, ν p.1 ≠ i
  | [], ν, i, h, p, hp => by cases hp
  | q :: l, ν, i, h, p, hp => by
    unfold fnd at h
    split at h
    · cases h
    · rename_i e
      rcases List.mem_cons.1 hp with rfl | hp
      · exact fun e' => e e'.symm
      · exact fnd_none h p hp
def notTup : A → Bool
  | .tup _ => false
  | _ => true
def tupOk : A → Bool
  | .tup cs => cs.all notTup
  | _ => true
structure CallOk (st : St) (J : List Nat) (ρ : Nat → Option Nat) (ν : Nat → Nat) (m m' : List (Nat × Blk)) : Prop where
  fit : FitR ρ (st.only J) [] m
  image : ∀ p ∈ m, ∀ j, ρ p.1 = some j → J.contains j = true
  keys : ∀ p ∈ m', look m' p.1 = some p.2
  inj : ∀ p ∈ m', ∀ q ∈ m', ν p.1 = ν q.1 → p.1 = q.1
  old : ∀ p ∈ m', pers p.1 = true → ρ p.1 = some (ν p.1) ∧ ∃ b, look m p.1 = some b ∧ b.alike p.2 ∧ ∀ e k xs, b ≠ .row e k xs
  new : ∀ p ∈ m', pers p.1 = false → st.used (ν p.1) = false ∧ (ν p.1 < st.n ∨ 1000 ≤ ν p.1)
theorem alike_ren {b c : Blk} {ν : Nat → Nat} (h : b.alike c) : b.alike (c.ren ν) := by cases b <;> cases c <;> exact h
theorem like_has {l l' : Loc} {b : Nat} (h1 : l.blk = l'.blk) (h2 : l.own = l'.own) : l.has b ↔ l'.has b := by unfold Loc.has; rw [h1, h2]
theorem call_io (hs : SimL C st L a w) {f : FuncId} {cargs : List A} {m m' : List (Nat × Blk)} {r : A} (hf : FnIO C.P f cargs m r m') {J : List Nat} {ρ : Nat → Option Nat} {ν : Nat → Nat} (hc : CallOk st J ρ ν m m') (vals : Array Value) (as : List A)
    (hsz : vals.size = as.length) (hrep : ∀ i (hi : i < as.length), RepA st L w (Mut C st L) (as[i]) (vals.getD i undef)) (hargs : le3s ρ (st.only J) m as cargs) (htup : tupOk r = true) :
    Calls C.P f vals w fun e w' => ∃ v L3, e = .returned v ∧ SimL C (st.back J m' ν) L3 a w' ∧ RepA (st.back J m' ν) L3 w' (Mut C (st.back J m' ν) L3) (ren3 ν r) v := by
  let X' : Nat → Prop := fun b => C.X b ∨ ∃ i, J.contains i = false ∧ (st.mem i).isSome = true ∧ (L i).has b
  have honly : ∀ i b', (st.only J).mem i = some b' → J.contains i = true ∧ st.mem i = some b' := fun i b' h => by
    simp only [St.only] at h
    split at h
    · exact ⟨by assumption, h⟩
    · cases h
  have hmut : ∀ b, X' b ∨ (∃ i, ((st.only J).mem i).isSome = true ∧ (L i).has b) ↔ Mut C st L b := fun b => by
    constructor
    · rintro ((h | ⟨i, _, h1, h2⟩) | ⟨i, h1, h2⟩)
      · exact .inl h
      · exact .inr ⟨i, h1, h2⟩
      · obtain ⟨b', hb'⟩ := Option.isSome_iff_exists.1 h1
        exact .inr ⟨i, by rw [(honly i b' hb').2]; rfl, h2⟩
    · rintro (h | ⟨i, h1, h2⟩)
      · exact .inl (.inl h)
      · by_cases hj : J.contains i = true
        · exact .inr ⟨i, by simp only [St.only, hj, if_true]; exact h1, h2⟩
        · exact .inl (.inr ⟨i, by simpa using hj, h1, h2⟩)
  let C1 : Ctx := ⟨C.P, X', fun b => ∃ id, (look m id).isSome = true ∧ (locOf ρ L id).has b, w, fun id => if pers id && (look m id).isSome then (locOf ρ L id).blk else none⟩
  have hsame : ∀ {x : A} {v : Value}, RepA st L w (Mut C st L) x v → RepA (st.only J) L w (Mut C st L) x v := fun h =>
    h.ext (Ext.refl _ _) (fun _ _ h => h) (fun _ h => h) (fun i _ b' hb => ⟨b', (honly i b' hb).2, b'.alike_refl, Loc.like_refl _⟩)
  have hmutE : Mut C1 (st.only J) L = Mut C st L := funext fun b => propext (hmut b)
  have hs1 : SimL ⟨C.P, X', fun _ => True, w, fun _ => none⟩ (st.only J) L a w := by
    have hmE : Mut ⟨C.P, X', fun _ => True, w, fun _ => none⟩ (st.only J) L = Mut C st L := hmutE
    refine ⟨hs.hn, hs.hd, fun t => ?_, fun i b' hb' => ?_, fun i j b hi hj hli hlj => ?_, fun i b hi hl => ?_, fun b hb => ?_, rfl, rfl, rfl, Nat.le_refl _, fun _ _ _ => rfl, fun _ _ h => (by cases h), fun _ _ h => (by cases h)⟩
    · rw [hmE]; exact hsame (hs.env t)
    · rw [hmE]
      have := hs.mem i b' (honly i b' hb').2
      exact ⟨this.1, this.2.ext (Ext.refl _ _) (fun _ _ h => h) (fun _ h => h) (fun i _ b' hb => ⟨b', (honly i b' hb).2, b'.alike_refl, Loc.like_refl _⟩) rfl (fun _ _ => rfl)⟩
    · obtain ⟨bi, hbi⟩ := Option.isSome_iff_exists.1 hi
      obtain ⟨bj, hbj⟩ := Option.isSome_iff_exists.1 hj
      exact hs.inj i j b (by rw [(honly i bi hbi).2]; rfl) (by rw [(honly j bj hbj).2]; rfl) hli hlj
    · obtain ⟨bi, hbi⟩ := Option.isSome_iff_exists.1 hi
      obtain ⟨hJ, hm⟩ := honly i bi hbi
      have ho := hs.out i b (by rw [hm]; rfl) hl
      refine ⟨?_, ho.2.1, .inl trivial⟩
      rintro (hx | ⟨q, hq, h1, h2⟩)
      · exact ho.1 hx
      · have := hs.inj q i b h1 (by rw [hm]; rfl) h2 hl
        subst this
        rw [hJ] at hq; cases hq
    · rcases hb with hx | ⟨q, _, h1, h2⟩
      · exact Nat.lt_of_lt_of_le (hs.old b hx) hs.size
      · exact (hs.out q b h1 h2).2.1
  have hMm : ∀ b, Mut C1 (mst m) (locOf ρ L) b → Mut C st L b := by
    rintro b (hx | ⟨i, hi, hl⟩)
    · exact (hmut b).1 (.inl hx)
    · obtain ⟨b', hb'⟩ := Option.isSome_iff_exists.1 hi
      obtain ⟨j, _, h1, h2⟩ := fit_src hc.fit hb' hl
      exact (hmut b).1 (.inr ⟨j, h1, h2⟩)
  have hfz : ∀ j, (∀ p ∈ m, ρ p.1 ≠ some j) → ((st.only J).mem j).isSome = true → ∀ b, (L j).has b → ¬ Mut C1 (mst m) (locOf ρ L) b := by
    rintro j hne hj b hb (hx | h)
    · exact (hs1.out j b hj hb).1 hx
    · exact fit_fz hs1 hc.fit j hne hj b hb h
  have hm0 : ∀ b, C1.M0 b → ∃ p ∈ m, ∃ j, ρ p.1 = some j ∧ J.contains j = true ∧ (st.mem j).isSome = true ∧ (L j).has b := by
    rintro b ⟨id, hid, hl⟩
    obtain ⟨b', hb'⟩ := Option.isSome_iff_exists.1 hid
    obtain ⟨j, h1, h2, h3⟩ := fit_src hc.fit hb' hl
    obtain ⟨bj, hbj⟩ := Option.isSome_iff_exists.1 h2
    exact ⟨_, look_mem hb', j, h1, (honly j bj hbj).1, by rw [(honly j bj hbj).2]; rfl, h3⟩
  have hsm : SimL C1 (mst m) (locOf ρ L) noAct C1.w0 := by
    refine ⟨rfl, rfl, fun t => .dead _, fun i b' hb' => ⟨?_, fit_repB hs1 hc.fit (by intro b hb; rw [show Mut ⟨C.P, X', fun _ => True, w, fun _ => none⟩ (st.only J) L = Mut C st L from hmutE]; exact hMm b hb) hfz hb'⟩, fun i j b hi hj hli hlj => ?_, fun i b hi hl => ?_, hs1.old, rfl, rfl, rfl, Nat.le_refl _, fun _ _ _ => rfl, fun i b hp => ⟨Nat.zero_le _, ?_⟩, fun i b hp hi => ?_⟩
    · have : look m i = some b' := hb'
      simp [mkSt, this]
    · obtain ⟨bi, hbi⟩ := Option.isSome_iff_exists.1 hi
      obtain ⟨bj, hbj⟩ := Option.isSome_iff_exists.1 hj
      obtain ⟨p, hp0, hp1, hp2⟩ := fit_src hc.fit hbi hli
      obtain ⟨q, hq0, hq1, hq2⟩ := fit_src hc.fit hbj hlj
      have := hs1.inj p q b hp1 hq1 hp2 hq2
      subst this
      exact hc.fit.inj _ (look_mem hbi) _ (look_mem hbj) p hp0 hq0
    · obtain ⟨bi, hbi⟩ := Option.isSome_iff_exists.1 hi
      obtain ⟨p, _, hp1, hp2⟩ := fit_src hc.fit hbi hl
      have := hs1.out p b hp1 hp2
      exact ⟨this.1, this.2.1, .inl ⟨i, hi, hl⟩⟩
    · simp only [C1] at hp
      split at hp
      · rename_i h
        simp only [Bool.and_eq_true, pers] at h
        exact Nat.lt_of_succ_le (Nat.le_of_ble_eq_true h.1.2)
      · cases hp
    · simp only [C1] at hp
      split at hp
      · exact hp
      · cases hp
  obtain ⟨hl, hg⟩ := le3s_get hargs
  refine (hf.2 C1 (locOf ρ L) vals rfl (fun id b hp => ?_) hsm (by omega) fun i hi => ?_).mono ?_
  · simp only [C1] at hp
    split at hp
    · rename_i h
      simp only [Bool.and_eq_true, pers] at h
      exact Nat.le_of_ble_eq_true h.1.1
    · cases hp
  · have hM1 : Mut ⟨C.P, X', fun _ => True, w, fun _ => none⟩ (st.only J) L = Mut C st L := hmutE
    refine fit_rep2 hs1 hc.fit (fun i => rfl) (by intro b hb; rw [hM1]; exact hMm b hb) hfz (hg i (by omega) hi) ?_
    rw [hM1]
    exact hsame (hrep i (by omega))
  rintro e w' ⟨v, L2, rfl, hs2, hr2⟩
  let L3 : Nat → Loc := fun i => match fnd m' ν i with | some p => ⟨(L2 p.1).blk, if pers p.1 then (L i).cap else (L2 p.1).cap, (L2 p.1).own⟩ | none => L i
  have hL3 : ∀ {i p}, fnd m' ν i = some p → L3 i = ⟨(L2 p.1).blk, if pers p.1 then (L i).cap else (L2 p.1).cap, (L2 p.1).own⟩ := fun {i p} h => by simp only [L3, h]
  have hL3n : ∀ {i}, fnd m' ν i = none → L3 i = L i := fun {i} h => by simp only [L3, h]
  have hfnd : ∀ p ∈ m', fnd m' ν (ν p.1) = some p := fun p hp => by
    cases h : fnd m' ν (ν p.1) with
    | none => exact absurd rfl (fnd_none h p hp)
    | some q =>
      obtain ⟨hq, hν⟩ := fnd_mem h
      have := hc.inj q hq p hp hν
      have e1 := hc.keys q hq
      have e2 := hc.keys p hp
      rw [this, e2] at e1
      have : q = p := by cases q; cases p; simp_all
      rw [this]
  have hL3h : ∀ {i p}, fnd m' ν i = some p → ∀ {b}, (L3 i).has b ↔ (L2 p.1).has b := fun {i p} h {b} => by rw [hL3 h]; exact like_has rfl rfl
  have hpin : ∀ p ∈ m', pers p.1 = true → ∃ g c, st.mem (ν p.1) = some c ∧ c.alike p.2 ∧ (L (ν p.1)).blk = some g ∧ (L2 p.1).blk = some g ∧ J.contains (ν p.1) = true := fun p hp hpp => by
    obtain ⟨hρ, c, hlk, hal, hnr⟩ := hc.old p hp hpp
    have hm := hc.fit.hms _ (look_mem hlk)
    unfold leM at hm
    rw [show ρ (p.1, c).1 = some (ν p.1) from hρ] at hm
    obtain ⟨b, hb, hle⟩ := hm
    obtain ⟨hJ, hb'⟩ := honly _ _ hb
    have fin : ∀ g, (L (ν p.1)).blk = some g → b.alike c → ∃ g c, st.mem (ν p.1) = some c ∧ c.alike p.2 ∧ (L (ν p.1)).blk = some g ∧ (L2 p.1).blk = some g ∧ J.contains (ν p.1) = true := fun g hg hbc => by
      have hpg : C1.pin p.1 = some g := by
        simp only [C1, hpp, hlk, Option.isSome_some, Bool.and_self, if_true]
        show (locOf ρ L p.1).blk = some g
        unfold locOf
        rw [hρ]; exact hg
      refine ⟨g, b, hb', ?_, hg, hs2.pin p.1 g hpg (by show (look m' p.1).isSome = true; rw [hc.keys p hp]; rfl), hJ⟩
      generalize p.2 = d at hal
      cases b <;> cases c <;> cases d <;> first | trivial | exact hal.elim | exact hbc.elim | exact (hbc.trans hal) | exact absurd rfl (hnr _ _ _)
    cases b with
    | row => cases c with
      | row => exact absurd rfl (hnr _ _ _)
      | _ => exact hle.elim
    | obj od => cases c with
      | obj od' =>
        obtain ⟨g, _, hg, _⟩ := (hs.mem _ _ hb').2
        have e : od = od' := hle
        exact fin g hg (by rw [e]; exact rfl)
      | _ => exact hle.elim
    | box ty' cs' => cases c with
      | box ty cs =>
        obtain ⟨g, _, hg, _⟩ := (hs.mem _ _ hb').2
        exact fin g hg trivial
      | _ => exact hle.elim
  have hmemb : ∀ i b', (st.back J m' ν).mem i = some b' → (∃ p, fnd m' ν i = some p ∧ b' = p.2.ren ν) ∨ (fnd m' ν i = none ∧ J.contains i = false ∧ st.mem i = some b') := fun i b' h => by
    simp only [St.back] at h
    split at h
    · rename_i p hp; cases h; exact .inl ⟨p, hp, rfl⟩
    · rename_i hn
      split at h
      · cases h
      · rename_i hJ; exact .inr ⟨hn, by simpa using hJ, h⟩
  have hM3 : ∀ b, Mut C (st.back J m' ν) L3 b → Mut C1 (mst m') L2 b := by
    rintro b (hx | ⟨i, hi, hl⟩)
    · exact .inl (.inl hx)
    · obtain ⟨b', hb'⟩ := Option.isSome_iff_exists.1 hi
      rcases hmemb i b' hb' with ⟨p, hp, _⟩ | ⟨hn, hJ, hm⟩
      · rw [hL3 hp] at hl
        exact .inr ⟨p.1, by show (look m' p.1).isSome = true; rw [hc.keys p (fnd_mem hp).1]; rfl, hl⟩
      · rw [hL3n hn] at hl
        exact .inl (.inr ⟨i, hJ, by rw [hm]; rfl, hl⟩)
  have hren1 : ∀ {x : A} {u : Value}, RepA (mst m') L2 w' (Mut C1 (mst m') L2) x u → RepA (st.back J m' ν) L3 w' (Mut C (st.back J m' ν) L3) (ren1 ν x) u ∨ x.single = false := fun {x u} h => by
    have hlk : ∀ i, (mst m').used i = true → ∃ b, look m' i = some b ∧ fnd m' ν (ν i) = some (i, b) := fun i hi => by
      obtain ⟨b, hb⟩ := Option.isSome_iff_exists.1 (show (look m' i).isSome = true from hi)
      exact ⟨b, hb, hfnd _ (look_mem hb)⟩
    cases h with
    | t x u h => exact .inl (.t _ _ (h.ext (Ext.refl _ _) (fun b _ => hM3 b)))
    | agg => exact .inr rfl
    | tup => exact .inr rfl
    | dead => exact .inr rfl
    | fel cells b off c hb hm hcc hr => exact .inl (.fel cells b off c hb (fun h => hm (hM3 b h)) hcc fun j hj => (hr j hj).ext (Ext.refl _ _) (fun b _ => hM3 b))
    | ref i u h1 hus hq =>
      obtain ⟨b, hb, hfd⟩ := hlk i hus
      refine .inl (.ref _ _ h1 (by simp [St.back, hfd]) fun e k xs hm => ?_)
      simp only [St.back, hfd, Option.some.injEq] at hm
      cases b with
      | box ty cs => cases hm
      | obj => cases hm
      | row e' k' xs' =>
        have : xs' = xs := by cases hm; rfl
        subst this
        have hnp : pers i = false := by
          cases hp : pers i with
          | false => rfl
          | true => obtain ⟨_, c, _, hal, hnr⟩ := hc.old _ (look_mem hb) hp; cases c <;> first | exact hal.elim | exact absurd rfl (hnr _ _ _)
        rw [hL3 hfd, hq _ _ _ hb]
        simp [Loc.slice, hnp]
    | ptr i o u h1 hus hq =>
      obtain ⟨b, hb, hfd⟩ := hlk i hus
      refine .inl (.ptr _ _ _ h1 (by simp [St.back, hfd]) fun ty cs hm => ?_)
      simp only [St.back, hfd, Option.some.injEq] at hm
      cases b with
      | row => cases hm
      | obj => cases hm
      | box ty' cs' => rw [hL3 hfd, hq _ _ hb]; rfl
    | ifc ty0 i o u h1 hus hq =>
      obtain ⟨b, hb, hfd⟩ := hlk i hus
      refine .inl (.ifc _ _ _ _ h1 (by simp [St.back, hfd]) fun ty cs hm => ?_)
      simp only [St.back, hfd, Option.some.injEq] at hm
      cases b with
      | row => cases hm
      | obj => cases hm
      | box ty' cs' => rw [hL3 hfd, hq _ _ hb]; rfl
    | rptr i p q u h1 hus hq =>
      obtain ⟨b, hb, hfd⟩ := hlk i hus
      refine .inl (.rptr _ _ _ _ h1 (by simp [St.back, hfd]) fun e k xs hm => ?_)
      simp only [St.back, hfd, Option.some.injEq] at hm
      cases b with
      | box ty cs => cases hm
      | obj => cases hm
      | row e' k' xs' =>
        have : k' = k := by cases hm; rfl
        subst this
        rw [hL3 hfd, hq _ _ _ hb]; rfl
    | ob i u h1 hus hq =>
      obtain ⟨b, hb, hfd⟩ := hlk i hus
      refine .inl (.ob _ _ h1 (by simp [St.back, hfd]) fun od hm => ?_)
      simp only [St.back, hfd, Option.some.injEq] at hm
      cases b with
      | box ty cs => cases hm
      | row => cases hm
      | obj od' =>
        have : od' = od := by cases hm; rfl
        subst this
        rw [hL3 hfd, hq _ hb]; rfl
  have hrens : ∀ (x : A), x.single = true → (ren1 ν x).single = true := fun x h => by cases x <;> first | exact h | rfl
  have hren1' : ∀ {x : A} {u : Value}, x.single = true → RepA (mst m') L2 w' (Mut C1 (mst m') L2) x u → RepA (st.back J m' ν) L3 w' (Mut C (st.back J m' ν) L3) (ren1 ν x) u := fun {x u} hx h => by
    rcases hren1 h with h | h
    · exact h
    · rw [hx] at h; cases h
  have hren2 : ∀ {x : A} {u : Value}, RepA (mst m') L2 w' (Mut C1 (mst m') L2) x u → (∀ cs, x ≠ .tup cs) → RepA (st.back J m' ν) L3 w' (Mut C (st.back J m' ν) L3) (ren2 ν x) u := fun {x u} h hx => by
    cases x with
    | agg cs =>
      cases h with
      | agg _ vs hsz h1 hr =>
        refine .agg _ vs (by simpa using hsz) (fun i hi => ?_) (fun i hi => ?_)
        · rw [List.getElem_map]; exact hrens _ (h1 i (by simpa using hi))
        · simp only [List.getElem_map]; exact hren1' (h1 i (by simpa using hi)) (hr i (by simpa using hi))
    | tup cs => exact absurd rfl (hx cs)
    | dead => exact .dead _
    | _ => exact hren1' rfl h
  have hsome : ∀ p ∈ m', ((mst m').mem p.1).isSome = true := fun p hp => by show (look m' p.1).isSome = true; rw [hc.keys p hp]; rfl
  have hsim : SimL C (st.back J m' ν) L3 a w' := by
    refine hs.next0 rfl hs.hn hs.hd hs2.os hs2.tape hs2.output hs2.size (fun b hb hm => hs2.block b hb fun hM0 => ?_) (fun i hi => ?_) (fun i hi b' hb' => ?_) (fun i b hi hl => ?_) (fun i j b hi hj hli hlj => ?_) (fun i hi hf => ?_) (fun i b' hb' => ?_) (fun t => .inl ⟨rfl, rfl⟩)
    · obtain ⟨_, _, j, _, _, h1, h2⟩ := hm0 b hM0
      exact hm ⟨j, h1, h2⟩
    · simp only [St.back]; split <;> first | rfl | exact hi
    · rcases hmemb i b' hb' with ⟨p, hp, rfl⟩ | ⟨hn, hJ, hm⟩
      · obtain ⟨hpm, hν⟩ := fnd_mem hp
        cases hpp : pers p.1 with
        | false =>
          have := (hc.new p hpm hpp).1
          rw [hν, hi] at this; cases this
        | true =>
          obtain ⟨g, c, h1, h1', h2, h3, _⟩ := hpin p hpm hpp
          rw [hν] at h1 h2
          refine ⟨_, h1, alike_ren h1', ?_⟩
          rw [hL3 hp, hpp]
          exact ⟨by rw [h2]; exact h3, rfl⟩
      · exact ⟨b', hm, b'.alike_refl, .of (hL3n hn)⟩
    · obtain ⟨b', hb'⟩ := Option.isSome_iff_exists.1 hi
      rcases hmemb i b' hb' with ⟨p, hp, rfl⟩ | ⟨hn, hJ, hm⟩
      · obtain ⟨hpm, hν⟩ := fnd_mem hp
        rw [hL3h hp] at hl
        have ho := hs2.out p.1 b (hsome p hpm) hl
        rcases ho.2.2 with hM0 | hge
        · obtain ⟨q, hq, j, hj1, hj2, hj3, hj4⟩ := hm0 b hM0
          exact .inr ⟨j, hj3, hj4⟩
        · exact .inl ⟨hge, ho.2.1⟩
      · rw [hL3n hn] at hl
        exact .inr ⟨i, by rw [hm]; rfl, hl⟩
    · have mixed : ∀ i j, (∃ p ∈ m', fnd m' ν i = some p ∧ (L2 p.1).has b) → J.contains j = false → (st.mem j).isSome = true → (L j).has b → False := by
        rintro i j ⟨p, hpm, hp, hl⟩ hJ hm hlj
        rcases (hs2.out p.1 b (hsome p hpm) hl).2.2 with hM0 | hge
        · obtain ⟨q, hq, j', hj1, hj2, hj3, hj4⟩ := hm0 b hM0
          have := hs.inj j' j b hj3 hm hj4 hlj
          subst this
          rw [hj2] at hJ; cases hJ
        · have := (hs.out j b hm hlj).2.1
          have hge' : w.heap.size ≤ b := hge
          omega
      obtain ⟨bi, hbi⟩ := Option.isSome_iff_exists.1 hi
      obtain ⟨bj, hbj⟩ := Option.isSome_iff_exists.1 hj
      rcases hmemb i bi hbi with ⟨p, hp, rfl⟩ | ⟨hn, hJ, hm⟩
      · obtain ⟨hpm, hν⟩ := fnd_mem hp
        rw [hL3h hp] at hli
        rcases hmemb j bj hbj with ⟨q, hq, rfl⟩ | ⟨hn, hJ, hm⟩
        · obtain ⟨hqm, hqν⟩ := fnd_mem hq
          rw [hL3h hq] at hlj
          have := hs2.inj p.1 q.1 b (hsome p hpm) (hsome q hqm) hli hlj
          rw [← hν, ← hqν, this]
        · rw [hL3n hn] at hlj
          exact (mixed i j ⟨p, hpm, hp, hli⟩ hJ (by rw [hm]; rfl) hlj).elim
      · rw [hL3n hn] at hli
        rcases hmemb j bj hbj with ⟨q, hq, rfl⟩ | ⟨hn', hJ', hm'⟩
        · obtain ⟨hqm, hqν⟩ := fnd_mem hq
          rw [hL3h hq] at hlj
          exact (mixed j i ⟨q, hqm, hq, hlj⟩ hJ (by rw [hm]; rfl) hli).elim
        · rw [hL3n hn'] at hlj
          exact hs.inj i j b (by rw [hm]; rfl) (by rw [hm']; rfl) hli hlj
    · obtain ⟨b', hb'⟩ := Option.isSome_iff_exists.1 hi
      rcases hmemb i b' hb' with ⟨p, hp, rfl⟩ | ⟨hn, hJ, hm⟩
      · obtain ⟨hpm, hν⟩ := fnd_mem hp
        cases hpp : pers p.1 with
        | false => have := (hc.new p hpm hpp).2; rwa [hν] at this
        | true =>
          obtain ⟨g, c, h1, _⟩ := hpin p hpm hpp
          rw [hν] at h1
          have := (hs.mem i _ h1).1
          rw [hf] at this; cases this
      · have := (hs.mem i b' hm).1
        rw [hf] at this; cases this
    · rcases hmemb i b' hb' with ⟨p, hp, rfl⟩ | ⟨hn, hJ, hm⟩
      · obtain ⟨hpm, hν⟩ := fnd_mem hp
        refine ⟨by simp [St.back, hp], .inr ?_⟩
        have hrep := (hs2.mem p.1 p.2 (hc.keys p hpm)).2
        obtain ⟨id, blk⟩ := p
        cases blk with
        | obj od =>
          obtain ⟨g, o, hg, hw, hr⟩ := hrep
          exact ⟨g, o, by rw [hL3 hp]; exact hg, hw, by rw [hL3 hp]; exact hr.ext (Ext.refl _ _) (fun b _ => hM3 b) rfl (fun _ _ => rfl)⟩
        | box ty cells =>
          obtain ⟨g, cs, hg, hw, hsz, hr⟩ := hrep
          refine ⟨g, cs, by rw [hL3 hp]; exact hg, hw, by simpa using hsz, fun q hq => ?_⟩
          have hq' : q < cells.length := by simpa using hq
          simp only [List.getElem_map]
          exact ⟨hrens _ (hr q hq').1, hren1' (hr q hq').1 (hr q hq').2⟩
        | row e k xs =>
          have hnp : pers id = false := by
            cases hpp : pers id with
            | false => rfl
            | true => obtain ⟨_, c, _, hal, hnr⟩ := hc.old _ hpm hpp; cases c <;> first | exact hal.elim | exact absurd rfl (hnr _ _ _)
          have hLi : L3 i = L2 id := by rw [hL3 hp]; simp only [hnp]; cases hX : L2 id; rfl
          obtain ⟨h0, hk, hq⟩ := hrep
          refine ⟨h0, hk, ?_⟩
          rcases hq with ⟨hx, hn⟩ | ⟨g, cur, hg, hw, hle, hcm, hsz, hcc⟩
          · exact .inl ⟨hx, by rw [hLi]; exact hn⟩
          · refine .inr ⟨g, cur, by rw [hLi]; exact hg, hw, by rw [hLi]; exact hle, by rw [hLi]; exact hcm, by rw [hLi]; exact hsz, fun p hp' q hq => ?_⟩
            obtain ⟨c, hc1, hc2⟩ := hcc p hp' q hq
            exact ⟨c, hc1, hc2.ext (Ext.refl _ _) (fun b _ => hM3 b)⟩
      · refine ⟨by simp [St.back, hn]; exact (hs.mem i b' hm).1, .inl ⟨hm, hL3n hn, fun b hb => hs2.block b (hs.out i b (by rw [hm]; rfl) hb).2.1 fun hM0 => ?_⟩⟩
        obtain ⟨_, _, j, _, hJj, h1, h2⟩ := hm0 b hM0
        have := hs.inj j i b h1 (by rw [hm]; rfl) h2 hb
        subst this
        rw [hJ] at hJj; cases hJj
  refine ⟨v, L3, rfl, hsim, ?_⟩
  cases r with
  | tup cs =>
    cases hr2 with
    | tup _ vs hsz hr =>
      refine .tup _ vs (by simpa using hsz) fun i hi => ?_
      simp only [List.getElem_map]
      have hi' : i < cs.length := by simpa using hi
      refine hren2 (hr i hi') fun ds he => ?_
      have := List.all_eq_true.1 htup _ (List.getElem_mem hi')
      rw [he] at this
      cases this
  | _ => exact hren2 hr2 (fun cs h => by cases h)
end Go.Proofs.Ytblikpgdepjhdaa
namespace Go.Proofs.Ytblikpgdepjhdaa
open Go.RowKit
set_option linter.unusedVariables false
variable {C : Ctx} {st st' st2 : St} {L L' : Nat → Loc} {a : Act} {w : World} {P : Program}
def ids1 : A → List Nat
  | .ref id => [id]
  | .ptr id _ => [id]
  | .ifc _ id _ => [id]
  | .rptr id _ _ => [id]
  | .ob id => [id]
  | _ => []
def ids2 : A → List Nat
  | .agg cs => cs.flatMap ids1
  | a => ids1 a
def ids3 : A → List Nat
  | .tup cs => cs.flatMap ids2
  | a => ids2 a
def opL : Op → List Operand
  | .move x | .assign x | .box _ x | .load _ x | .nilCheck x | .unOp _ _ x | .convert _ _ x | .fieldAddr _ x _ | .field _ x _ | .extract x _ => [x]
  | .pick c a b => [c, a, b]
  | .alloc _ => []
  | .build _ ps | .buildSlice _ _ ps => ps.toList.map (·.2)
  | .store _ a v | .binOp _ _ a v _ | .makeSlice _ a v | .indexAddr _ a v | .index _ a v => [a, v]
  | .slice _ x l h m => x :: (l.toList ++ (h.toList ++ m.toList))
  | .call c => (match c.callee with | .value f => [f] | .invoke r _ => [r] | .builtin _ => []) ++ c.args.toList
  | op => op.operands.toList
theorem opL_eq (op : Op) : opL op = op.operands.toList := by
  cases op <;> first
    | rfl
    | (simp [opL, Op.operands]; done)
    | (rename_i c; simp only [opL, Op.operands, Call.operands]; cases c.callee <;> simp)
def cellIds (st : St) (i : Nat) : List Nat := match st.mem i with | some (.box _ cells) => cells.flatMap ids1 | _ => []
def reach (st : St) (evs : List A) : List Nat :=
  evs.flatMap ids3 ++ ((evs.flatMap ids3).flatMap (cellIds st) ++ ((evs.flatMap ids3).flatMap (cellIds st)).flatMap (cellIds st))
def ptr1 : A → Bool
  | .ptr _ _ => true
  | .ifc _ _ _ => true
  | .ob _ => true
  | _ => false
def ref1 : A → Bool
  | .ref _ => true
  | _ => false
def ptr2 : A → Bool
  | .agg cs => cs.any fun x => ptr1 x || ref1 x
  | x => ptr1 x
def hasPtr (evs : List A) : Bool := evs.any ptr2
def freshIds : Option Nat → List Nat
  | some d => d :: (List.range 24).map fun i => 1000000 + 1000 * d + i
  | none => []
def CallPure (P : Program) (f : FuncId) (d : Option Nat) (as evs : List A) (st : St) (K : St → Prop) : Prop :=
  ∃ r, FnP P f as r ∧ as.all flat2 = true ∧ ((scal3 r = true ∧ K (st.put d r)) ∨ K ((st.frzs (evs.flatMap refs2)).put d r))
def CallIO (P : Program) (f : FuncId) (d : Option Nat) (evs : List A) (st : St) (K : St → Prop) : Prop :=
  ∃ cargs m r m' ρ ν, FnIO P f cargs m r m' ∧ tupOk r = true ∧ (hasPtr evs = true ∨ evs.flatMap ids3 = []) ∧ CallOk st (reach st evs) ρ ν m m' ∧ (∀ p ∈ m', pers p.1 = false → ν p.1 ∈ freshIds d) ∧
    le3s ρ (st.only (reach st evs)) m evs cargs ∧ K ((st.back (reach st evs) m' ν).put d (ren3 ν r))
def CallAny (P : Program) (f : FuncId) (d : Option Nat) (as evs : List A) (st : St) (K : St → Prop) : Prop := CallPure P f d as evs st K ∨ CallIO P f d evs st K
def stepW0 (P : Program) (o : Oper) (st : St) (K : St → Prop) : Prop :=
  match o.op with
  | .move x | .assign x => K (st.put o.dst (st.ev x))
  | .pick c a b => ∃ t, st.ev c = .v (.bool t) ∧ K (st.put o.dst (pickA t (st.ev a) (st.ev b)))
  | .alloc ty => ∃ d ti, o.dst = some d ∧ tinfo P ty = some ti ∧ st.used d = false ∧ K ((st.new d (.box ty (ti.zero.map .v))).put o.dst (.ptr d 0))
  | .box ty x => ∃ d cs, o.dst = some d ∧ cellsOf (st.ev x) = some cs ∧ st.used d = false ∧ K ((st.new d (.box ty cs)).put o.dst (.ptr d 0))
  | .build t parts => ∃ ti cs, tinfo P t = some ti ∧ tkind P t = .strct ∧ fillA ti.fs (ti.zero.map .v) (parts.toList.map fun (i, x) => (i, st.ev x)) = some cs ∧ K (st.put o.dst (.agg cs))
  | .buildSlice t len parts => ∃ d ti e te xs, o.dst = some d ∧ tinfo P t = some ti ∧ ti.elem = some e ∧ tinfo P e = some te ∧ st.used d = false ∧
      0 < te.size ∧ parts.size = len ∧ len * te.size ≤ 16777216 ∧
      partsT te.size 0 (parts.toList.map fun (i, x) => (i, (st.frzs (parts.toList.flatMap fun (_, x) => refs2 (st.ev x))).ev x)) = some xs ∧
      K (((st.frzs (parts.toList.flatMap fun (_, x) => refs2 (st.ev x))).new d (.row e te.size xs)).put o.dst (.ref d))
  | .load t a => ∃ ti x, tinfo P t = some ti ∧ peek st (st.ev a) ti = some x ∧ K (st.put o.dst x)
  | .store t a x => ∃ ti cs, tinfo P t = some ti ∧ cellsOf (st.ev x) = some cs ∧ cs.length = ti.size ∧
      ((∃ id off ty cells, st.ev a = .ptr id off ∧ st.mem id = some (.box ty cells) ∧ off + cs.length ≤ cells.length ∧
          K ((st.setm id (.box ty (cells.take off ++ cs ++ cells.drop (off + cs.length)))).put o.dst .dead)) ∨
       (∃ id i j e k xs el l, st.ev a = .rptr id i j ∧ st.mem id = some (.row e k xs) ∧ xs[i]? = some el ∧ cellsT cs = some l ∧ j + l.length ≤ el.length ∧
          K ((st.setm id (.row e k (xs.set i (el.take j ++ l ++ el.drop (j + l.length))))).put o.dst .dead)))
  | .nilCheck x => isPtr st (st.ev x) = true ∧ K (st.put o.dst (st.ev x))
  | .binOp op ty x y _ => ∃ z, binA P st op ty (st.ev x) (st.ev y) = some z ∧ z.oneCell' = true ∧ K (st.put o.dst (.v z))
  | .unOp op _ x => ∃ y z, st.ev x = .v y ∧ unF op y = some z ∧ z.oneCell' = true ∧ K (st.put o.dst (.v z))
  | .convert src dst x => ∃ z, (tinfo P src).isSome = true ∧ convA P src dst (st.ev x) = some z ∧ K (st.put o.dst z)
  | .fieldAddr s x f => ∃ ti z, tinfo P s = some ti ∧ tkind P s = .strct ∧ isPtr st (st.ev x) = true ∧ fieldA ti (st.ev x) f = some z ∧ K (st.put o.dst z)
  | .field s x f => ∃ ti z, tinfo P s = some ti ∧ tkind P s = .strct ∧ subA ti (st.ev x) f = some z ∧ K (st.put o.dst z)
  | .indexAddr t x i => ∃ (ti : TI) (e : TypeId) (te : TI) (k' : Nat) (xs : List (List T)) (k : IntKind) (n : Nat) (el : List T), tinfo P t = some ti ∧ ti.elem = some e ∧ tinfo P e = some te ∧ asList st (st.ev x) = some (k', xs) ∧ st.ev i = .v (.int k (n : Int)) ∧ xs[n]? = some el ∧ k' = te.size ∧ K (st.put o.dst (match st.ev x with | .ref id => .rptr id n 0 | _ => .fel el))
  | .index t x i => ∃ (s : ByteArray) (k : IntKind) (n : Nat) (b : UInt8), tkind P t = .str ∧ st.ev x = .v (.string s) ∧ st.ev i = .v (.int k (n : Int)) ∧ s[n]? = some b ∧ K (st.put o.dst (.v (.int .u8 b.toNat)))
  | .extract x i => ∃ cs y, st.ev x = .tup cs ∧ cs[i]? = some y ∧ K (st.put o.dst y)
  | .call c =>
    match c.callee, c.args.toList, c.argTypes.toList with
    | .builtin .len, [x], ty :: _ => ∃ z, lenA P st ty (st.ev x) = some z ∧ K (st.put o.dst (.v z))
    | .builtin .append, [x, y], [t, t'] => ∃ d ti e te k'' ys, t = t' ∧ o.dst = some d ∧ tinfo P t = some ti ∧ ti.elem = some e ∧ tinfo P e = some te ∧ 0 < te.size ∧ st.used d = false ∧
      asList st (st.ev y) = some (k'', ys) ∧ (ys = [] ∨ k'' = te.size) ∧
      ((st.ev x = .v (.slice none 0 0) ∧ ys.length * te.bytes ≤ 140737488355328 ∧ ys.length ≤ maxLen ∧ K ((st.new d (.row e te.size ys)).put o.dst (.ref d))) ∨
       (∃ id k' xs, st.ev x = .ref id ∧ st.mem id = some (.row e k' xs) ∧ k' = te.size ∧ (xs.length + ys.length) * te.bytes ≤ 140737488355328 ∧ xs.length + ys.length ≤ maxLen ∧ K (((st.del id).new d (.row e te.size (xs ++ ys))).put o.dst (.ref d))))
    | .value (.func f), args, _ => CallAny P f o.dst (args.map fun x => arg2 st (st.ev x)) (args.map st.ev) st K
    | _, _, _ => False
  | _ => False
def Quiet (P : Program) (o : Oper) (xs : List A) (x : A) : Prop :=
  ∀ (w : World) (M : Nat → Prop) (ρ : Operand → Value), (∀ b, M b → b < w.heap.size) → xs.length = (opL o.op).length → (∀ i (hi : i < xs.length) (hi' : i < (opL o.op).length), RepF w M (xs[i]) (ρ ((opL o.op)[i]))) → ∃ v w', (execOp ρ o).run P w = .ok (.value v) w' ∧ Below w.heap.size w w' ∧ RepF w' M x v
def Makes (P : Program) (o : Oper) (xs : List A) (e : TypeId) (k : Nat) (ys : List (List T)) : Prop :=
  0 < k ∧ ∀ (w : World) (M : Nat → Prop) (ρ : Operand → Value), xs.length = (opL o.op).length → (∀ i (hi : i < xs.length) (hi' : i < (opL o.op).length), RepF w M (xs[i]) (ρ ((opL o.op)[i]))) →
    ∃ (cur : Array Value) (cap : Nat) (w1 : World), w1.heap = w.heap ∧ w1.os = w.os ∧ w1.tape = w.tape ∧ w1.output = w.output ∧ ys.length ≤ cap ∧ cap ≤ maxLen ∧ cur.size = cap * k ∧ (∀ (i : Nat) x, ys[i]? = some x → x.length = k) ∧
      (∀ (p : Nat) x, ys[p]? = some x → ∀ (j : Nat) (t : T), x[j]? = some t → ∃ c, cur[p * k + j]? = some c ∧ RepT w M t c) ∧
      (execOp ρ o).run P w = .ok (.value (.slice (some ⟨w.heap.size, 0, none⟩) ys.length cap)) (w1.alloc (.cells cur e))
def isStr : A → Bool
  | .t (.v (.string _)) => true
  | _ => false
def makesRow (o : Oper) (st : St) : Bool :=
  match o.op with
  | .makeSlice _ _ _ => true
  | .convert _ _ x => isStr (st.ev x)
  | .call c => (match c.callee, c.args.toList with | .builtin .append, _ :: _ => true | _, _ => false)
  | _ => false
def argsOf (o : Oper) (st : St) : List A := (opL o.op).map fun x => arg2 st (st.ev x)
def noRefs (o : Oper) (st : St) : Bool := ((opL o.op).flatMap fun x => refs2 (st.ev x)).isEmpty
def Other (P : Program) (o : Oper) (st : St) (K : St → Prop) : Prop :=
  (argsOf o st).all flat2 = true ∧
  ((∃ x, Quiet P o (argsOf o st) x ∧ (scal3 x = true ∨ noRefs o st = true) ∧ K (st.put o.dst x)) ∨
   (∃ d e k ys, o.dst = some d ∧ st.used d = false ∧ Makes P o (argsOf o st) e k ys ∧ (noRefs o st = true ∧ makesRow o st = true) ∧ K ((st.new d (.row e k ys)).put o.dst (.ref d))))
def own1 : A → List Nat
  | .ref id => [id]
  | .ob id => [id]
  | _ => []
def nameOf (b : Blk) (id : Nat) : A := match b with | .obj _ => .ob id | _ => .ref id
theorem own1_name (b : Blk) (id : Nat) : own1 (nameOf b id) = [id] := by cases b <;> rfl
def OwnMove (P : Program) (o : Oper) (i : Nat) (b : Blk) (xs : List A) (b' : Blk) : Prop :=
  ∀ (st : St) (id d : Nat) (K : St → Prop), o.dst = some d → ((opL o.op).map st.ev)[i]? = some (.ref id) → ((opL o.op).map st.ev).set i .dead = xs → st.mem id = some b → st.used d = false →
    K (((st.del id).new d b').put o.dst (.ref d)) → Opk P o st K
def OwnSet (P : Program) (o : Oper) (i : Nat) (b : Blk) (xs : List A) (b' : Blk) (r : A) : Prop :=
  ∀ (st : St) (id : Nat) (K : St → Prop), ((opL o.op).map st.ev)[i]? = some (nameOf b id) → ((opL o.op).map st.ev).set i .dead = xs → st.mem id = some b → K ((st.setm id b').put o.dst r) → Opk P o st K
def NewObj (P : Program) (o : Oper) (xs : List A) (od : Od) : Prop :=
  ∀ (w : World) (M : Nat → Prop) (ρ : Operand → Value), (∀ b, M b → b < w.heap.size) → xs.length = (opL o.op).length → (∀ i (hi : i < xs.length) (hi' : i < (opL o.op).length), RepF w M (xs[i]) (ρ ((opL o.op)[i]))) →
    ∃ (ob : Obj) (w1 : World), w1.heap = w.heap ∧ w1.os = w.os ∧ w1.tape = w.tape ∧ w1.output = w.output ∧ RepO w M (fun _ => False) w.heap.size od ob ∧ od.plain = true ∧ (execOp ρ o).run P w = .ok (.value ((Loc.at_ w.heap.size 0).ob od)) (w1.alloc ob)
def movesRow (o : Oper) (i : Nat) : Bool :=
  match o.op with
  | .slice _ _ _ _ _ => true
  | .call c => (match c.callee with | .builtin .append => Nat.beq i 0 | _ => false)
  | _ => false
def setsRow (o : Oper) : Bool :=
  match o.op with
  | .call c => (match c.callee with | .builtin .copy => true | .builtin .clear => true | .builtin .delete => true | _ => false)
  | .next _ _ => true
  | .mapUpdate _ _ _ _ => true
  | .lookup _ _ _ _ => true
  | _ => false
def newsObj (o : Oper) : Bool :=
  match o.op with
  | .range _ _ => true
  | .makeMap _ _ => true
  | _ => false
def Owns (P : Program) (o : Oper) (st : St) (K : St → Prop) : Prop :=
  (∃ i b xs b' id d, movesRow o i = true ∧ o.dst = some d ∧ ((opL o.op).map st.ev)[i]? = some (.ref id) ∧ ((opL o.op).map st.ev).set i .dead = xs ∧ st.mem id = some b ∧ st.used d = false ∧ OwnMove P o i b xs b' ∧ K (((st.del id).new d b').put o.dst (.ref d))) ∨
  (∃ i b xs b' r id, setsRow o = true ∧ ((opL o.op).map st.ev)[i]? = some (nameOf b id) ∧ ((opL o.op).map st.ev).set i .dead = xs ∧ st.mem id = some b ∧ st.used id = true ∧ OwnSet P o i b xs b' r ∧ K ((st.setm id b').put o.dst r)) ∨
  (∃ od d, newsObj o = true ∧ o.dst = some d ∧ st.used d = false ∧ noRefs o st = true ∧ (argsOf o st).all flat2 = true ∧ NewObj P o (argsOf o st) od ∧ K ((st.new d (.obj od)).put o.dst (.ob d)))
def CallV (P : Program) (o : Oper) (st : St) (K : St → Prop) : Prop :=
  ∃ c x t r, o.op = .call c ∧ c.callee = .value x ∧ st.ev x = .t t ∧ FnC P t (c.args.toList.map fun y => arg2 st (st.ev y)) r ∧ (c.args.toList.map fun y => arg2 st (st.ev y)).all flat2 = true ∧
    (scal3 r = true ∨ (c.args.toList.map st.ev).flatMap refs2 = []) ∧ K (st.put o.dst r)
def LookW (P : Program) (o : Oper) (st : St) (K : St → Prop) : Prop :=
  ∃ c f r, o.op = .call c ∧ c.callee = .value (.func f) ∧ FnP P f (c.args.toList.map fun y => look2 st (st.ev y)) r ∧ (c.args.toList.map fun y => look2 st (st.ev y)).all flat2 = true ∧ scal3 r = true ∧ K (st.put o.dst r)
def stepW (P : Program) (o : Oper) (st : St) (K : St → Prop) : Prop := stepW0 P o st K ∨ Other P o st K ∨ Owns P o st K ∨ CallV P o st K ∨ LookW P o st K
def guardOf (ops : Array Oper) (st : St) (j : Nat) : A := match (ops[j]?).bind (·.dst) with | some d => st.env d | none => .dead
def runW (P : Program) (ops : Array Oper) : List Nat → St → (St → Prop) → Prop
  | [], st, K => K st
  | i :: rest, st, K =>
    match ops[i]? with
    | none => runW P ops rest st K
    | some o =>
      match o.guard with
      | none => ∃ ids, Opk P o (st.frzs ids) fun st' => runW P ops rest st' K
      | some (j, want) => (∃ b, guardOf ops st j = .v (.bool b) ∧ (b = want → ∃ ids, Opk P o (st.frzs ids) fun st' => runW P ops rest st' K) ∧ (b ≠ want → runW P ops rest (st.put o.dst (.tup [])) K)) ∨ (guardOf ops st j = .tup [] ∧ runW P ops rest (st.put o.dst (.tup [])) K)
end Go.Proofs.Ytblikpgdepjhdaa
namespace Go.Proofs.Ytblikpgdepjhdaa
open Go.RowKit
set_option linter.unusedVariables false
variable {C : Ctx} {st st' : St} {L L' : Nat → Loc} {a : Act} {w : World} {P : Program}
theorem op_append {o : Oper} {K : St → Prop} (x y : Operand) (t : TypeId) (ho : o.op = .call { callee := .builtin .append, args := #[x, y], argTypes := #[t, t] }) (d : Nat) (ti : TI) (e : TypeId) (te : TI) (k'' : Nat) (ys : List (List T))
    (hdst : o.dst = some d) (ht : tinfo P t = some ti) (he : ti.elem = some e) (hte : tinfo P e = some te) (hpos : 0 < te.size) (hu : st.used d = false) (hl : asList st (st.ev y) = some (k'', ys)) (hk : ys = [] ∨ k'' = te.size)
    (h : (st.ev x = .v (.slice none 0 0) ∧ ys.length * te.bytes ≤ 140737488355328 ∧ ys.length ≤ maxLen ∧ K ((st.new d (.row e te.size ys)).put o.dst (.ref d))) ∨
       (∃ id k' xs, st.ev x = .ref id ∧ st.mem id = some (.row e k' xs) ∧ k' = te.size ∧ (xs.length + ys.length) * te.bytes ≤ 140737488355328 ∧ xs.length + ys.length ≤ maxLen ∧ K (((st.del id).new d (.row e te.size (xs ++ ys))).put o.dst (.ref d)))) : Opk P o st K := by
  intro C a w hP ⟨L, hs⟩ hd next Q hn
  have hp : AppendParts P st t e te (st.ev y) ys := ⟨⟨ti, ht, he⟩, hte, hpos, ⟨k'', hl, hk⟩⟩
  have run : ∀ v u w', a.eval x = v → (Builtin.append_ #[t, t] o.type #[v, a.eval y]).run P w = .ok u w' → (execOp a.eval o).run P w = .ok (.value u) w' := fun v u w' hv hr => by
    unfold execOp
    simp only [ho, resolve, invoke, builtin, Sem.run_bind, Sem.run_pure, Result.andThen_ok, List.map_toArray, List.map_cons, List.map_nil, hv, hr]
  rcases h with ⟨hx, hb, hm, h⟩ | ⟨id, k', xs, hx, hmem, rfl, hb, hm, h⟩
  · have e1 := rep_val (hx ▸ ev_rep hs x)
    obtain ⟨u, w', hr, hsim⟩ := append_nil hs t o.type e te _ ys hp (ev_rep hs y) hb hm d hu o.dst hdst (hd d hdst)
    exact wp_value (run _ _ _ e1 hr) (hn _ _ _ (by simp [St.new]) h hsim)
  · have hr := ev_rep hs x
    rw [hx] at hr
    generalize hv : a.eval x = v at hr
    cases hr with
    | ref _ _ h1 hus hq =>
      obtain ⟨u, w', hr, hsim⟩ := append_ref hs t o.type e te _ ys hp (ev_rep hs y) id xs hmem hb hm d hu o.dst hdst (hd d hdst)
      exact wp_value (run _ _ _ (by rw [hv, hq _ _ _ hmem]) hr) (hn _ _ _ (by simp [St.new, St.del]) h hsim)
theorem repF_to {M : Nat → Prop} {x : A} {v : Value} (h : RepF w M x v) : RepA st L w M x v :=
  RepA.ext h (Ext.refl _ _) (fun _ _ h => h) (fun id hi => by simp at hi) (fun id hi => by simp at hi)
theorem repF_of {M : Nat → Prop} {x : A} {v : Value} (hf : flat2 x = true) (h : RepA st L w M x v) : RepF w M x v := by
  have one : ∀ {y : A} {v : Value}, flat1 y = true → RepA st L w M y v → RepF w M y v := fun {y v} hy h => by
    cases y <;> simp [flat1] at hy
    exact .t _ _ (rep_t h)
  cases x with
  | agg cs =>
    cases h with
    | agg _ vs hs h1 hr => exact .agg _ vs hs h1 fun i hi => one (by simp only [flat2, List.all_eq_true] at hf; exact hf _ (List.getElem_mem hi)) (hr i hi)
  | _ => exact one hf h
theorem scal_any {M M' : Nat → Prop} {x : A} {v : Value} (hf : scal3 x = true) (h : RepF w M x v) : RepF w M' x v := by
  have one : ∀ {y : A} {v : Value}, scal1 y = true → RepF w M y v → RepF w M' y v := fun {y v} hy h => by
    unfold scal1 at hy
    split at hy
    · have := rep_t h
      cases this with
      | v x h => exact .t _ _ (.v _ h)
    · cases hy
  have two : ∀ {y : A} {v : Value}, scal2 y = true → RepF w M y v → RepF w M' y v := fun {y v} hy h => by
    cases y with
    | agg cs =>
      cases h with
      | agg _ vs hs h1 hr => exact .agg _ vs hs h1 fun i hi => one (by simp only [scal2, List.all_eq_true] at hy; exact hy _ (List.getElem_mem hi)) (hr i hi)
    | _ => exact one hy h
  cases x with
  | tup cs =>
    cases h with
    | tup _ vs hs hr => exact .tup _ vs hs fun i hi => two (by simp only [scal3, List.all_eq_true] at hf; exact hf _ (List.getElem_mem hi)) (hr i hi)
  | _ => exact two hf h
theorem frz_mem (st : St) (id i : Nat) (b' : Blk) (h : (st.frz id).mem i = some b') : ∃ b, st.mem i = some b ∧ b.alike b' ∧ (i = id → ∀ e k xs, b ≠ .row e k xs) := by
  cases hm : st.mem id with
  | none =>
    have e : st.frz id = st := by unfold St.frz; rw [hm]
    rw [e] at h
    exact ⟨b', h, b'.alike_refl, fun e => by rw [e, hm] at h; cases h⟩
  | some blk =>
    cases blk with
    | obj od =>
      rw [frz_obj hm] at h
      exact ⟨b', h, b'.alike_refl, fun e => by rw [e, hm] at h; cases h; intro _ _ _ h; cases h⟩
    | box ty cs =>
      cases hc : cellsT cs with
      | none =>
        have e : st.frz id = st := by unfold St.frz; rw [hm]; simp only; rw [hc]
        rw [e] at h
        exact ⟨b', h, b'.alike_refl, fun e => by rw [e, hm] at h; cases h; intro _ _ _ h; cases h⟩
      | some ts =>
        rw [frz_box hm hc] at h
        simp only [St.sub] at h
        by_cases e : i = id
        · rw [if_pos e] at h; cases h
        · rw [if_neg e] at h
          obtain ⟨b, h1, rfl⟩ := Option.map_eq_some_iff.1 h
          exact ⟨b, h1, Blk.sub_alike _ _ _, fun h => absurd h e⟩
    | row e k xs =>
      rw [frz_row hm] at h
      simp only [St.sub] at h
      by_cases e : i = id
      · rw [if_pos e] at h; cases h
      · rw [if_neg e] at h
        obtain ⟨b, h1, rfl⟩ := Option.map_eq_some_iff.1 h
        exact ⟨b, h1, Blk.sub_alike _ _ _, fun h => absurd h e⟩
theorem alike_trans {a b c : Blk} (h : a.alike b) (h' : b.alike c) : a.alike c := by
  cases a <;> cases b <;> cases c <;> simp_all [Blk.alike]
theorem frzs_mem (ids : List Nat) : ∀ (st : St) (i : Nat) (b' : Blk), (st.frzs ids).mem i = some b' → ∃ b, st.mem i = some b ∧ b.alike b' ∧ (i ∈ ids → ∀ e k xs, b ≠ .row e k xs) := by
  induction ids with
  | nil => intro st i b' h; exact ⟨b', h, b'.alike_refl, fun h => by simp at h⟩
  | cons id ids ih =>
    intro st i b' h
    obtain ⟨c, hc, hal, hbox⟩ := ih (st.frz id) i b' h
    obtain ⟨b, hb, hal2, hbox2⟩ := frz_mem st id i c hc
    refine ⟨b, hb, alike_trans hal2 hal, fun hi => ?_⟩
    rcases List.mem_cons.1 hi with h1 | h1
    · exact hbox2 h1
    · have h3 := hbox h1
      intro e k xs he
      subst he
      cases c with
      | row e' k' xs' => exact h3 _ _ _ rfl
      | box => exact hal2.elim
      | obj => exact hal2.elim
theorem arg_rep (hs : SimL C st L a w) {M' : Nat → Prop} (hM : ∀ b, M' b → Mut C st L b) {x : A} (hx : ∀ id ∈ refs2 x, ∀ e k xs, st.mem id = some (.row e k xs) → ∀ b, (L id).has b → ¬ M' b) {v : Value} (h : RepA st L w (Mut C st L) x v) : RepA st L w M' (arg2 st x) v := by
  have one : ∀ {y : A} {v : Value}, (∀ id ∈ refs1 y, ∀ e k xs, st.mem id = some (.row e k xs) → ∀ b, (L id).has b → ¬ M' b) → RepA st L w (Mut C st L) y v → RepA st L w M' (arg1 st y) v := fun {y v} hy h => by
    have base : RepA st L w M' y v := h.ext (Ext.refl _ _) (fun b _ h => hM b h) (fun _ h => h) (shape_like _ _)
    cases y with
    | ref id =>
      unfold arg1
      dsimp only
      split
      · rename_i e k xs hm
        cases h with
        | ref _ _ h1 hus hq =>
          rw [hq _ _ _ hm]
          exact .t _ _ (row_rep (hs.mem _ _ hm).2 (fun b hb => ⟨(hs.out id b (by rw [hm]; rfl) (.inl hb)).2.1, hy id (by simp [refs1]) e k xs hm b (.inl hb)⟩) (fun b _ h => hM b h))
      · exact base
    | _ => exact base
  have hsing : ∀ (y : A), y.single = true → (arg1 st y).single = true := fun y hy => by
    cases y with
    | ref id => unfold arg1; dsimp only; split <;> rfl
    | _ => exact hy
  cases x with
  | agg cs =>
    cases h with
    | agg _ vs hsz h1 hr =>
      refine .agg _ vs (by simpa using hsz) (fun i hi => ?_) (fun i hi => ?_)
      · simp only [List.getElem_map]; exact hsing _ (h1 i (by simpa using hi))
      · simp only [List.getElem_map]; exact one (fun id hid => hx id (by simp only [refs2, List.mem_flatMap]; exact ⟨_, List.getElem_mem _, hid⟩)) (hr i (by simpa using hi))
  | _ => exact (fun q => one q h) hx
theorem plain_enter {f : FuncId} (h : plainFn P f = true) (args : Array Value) (w : World) : (callFunc f args).run P w = .ok (.enter f args) w := by
  unfold plainFn at h
  split at h
  · rename_i fn hf
    simp only [Bool.and_eq_true, Bool.not_eq_true', beq_eq_false_iff_ne, ne_eq] at h
    obtain ⟨c, hc⟩ := Option.isSome_iff_exists.1 h.1
    simp [callFunc, hf, h.2, hc]
  · cases h
theorem op_call {o : Oper} {K : St → Prop} (f : FuncId) (args : Array Operand) (ts : Array TypeId) (ho : o.op = .call { callee := .value (.func f), args := args, argTypes := ts }) (r : A) (hf : FnP P f (args.toList.map fun x => arg2 st (st.ev x)) r) (hflat : (args.toList.map fun x => arg2 st (st.ev x)).all flat2 = true)
    (h : (scal3 r = true ∧ K (st.put o.dst r)) ∨ K ((st.frzs ((args.toList.map st.ev).flatMap refs2)).put o.dst r)) : Opk P o st K := by
  intro C a w hP ⟨L, hs⟩ hd next Q hn
  have hflat : (args.toList.all fun x => flat2 (arg2 st (st.ev x))) = true := by rw [List.all_map] at hflat; exact hflat
  have hfm : (args.toList.map st.ev).flatMap refs2 = args.toList.flatMap fun x => refs2 (st.ev x) := by rw [List.flatMap_map]
  rw [hfm] at h
  obtain ⟨hpl, hcall⟩ := hf
  have run : (execOp a.eval o).run P w = .ok (.enter f (args.map a.eval)) w := by
    unfold execOp
    simp only [ho, resolve, Deferred.ofValue, invoke, Act.eval, Sem.run_bind, Sem.run_pure, Result.andThen_ok]
    rw [show #[] ++ Array.map a.eval args ++ #[] = args.map a.eval by simp]
    exact plain_enter hpl _ w
  have hget : ∀ i (hi : i < (args.toList.map fun x => arg2 st (st.ev x)).length), (args.map a.eval).getD i undef = a.eval (args[i]'(by simpa using hi)) := fun i hi => by
    have : i < args.size := by simpa using hi
    simp [Array.getD_eq_getD_getElem?, this]
  have hargs : ∀ (M' : Nat → Prop), (∀ b, M' b → Mut C st L b) → (∀ x ∈ args.toList, ∀ id ∈ refs2 (st.ev x), ∀ e k xs, st.mem id = some (.row e k xs) → ∀ b, (L id).has b → ¬ M' b) →
      ∀ i (hi : i < (args.toList.map fun x => arg2 st (st.ev x)).length), RepF w M' ((args.toList.map fun x => arg2 st (st.ev x))[i]) ((args.map a.eval).getD i undef) := fun M' hM hx i hi => by
    have hi' : i < args.size := by simpa using hi
    rw [hget i hi]
    simp only [List.getElem_map, Array.getElem_toList]
    have hmem : args[i] ∈ args.toList := by simp
    exact repF_of (List.all_eq_true.1 hflat _ hmem) (arg_rep hs hM (hx _ hmem) (ev_rep hs _))
  unfold Oper.wp
  rw [run]
  rcases h with ⟨hsc, h⟩ | h
  · refine (hcall w (fun _ => False) (args.map a.eval) (fun b hb => hb.elim) (by simp) (hargs _ (fun b hb => hb.elim) (fun _ _ _ _ _ _ _ _ _ _ h => h))).mono ?_
    rintro e w' ⟨v, rfl, hb, hr⟩
    refine hn _ _ _ (by simp) h ⟨L, (hs.later hb.os hb.tape hb.output hb.size hb.block).put _ hd (repF_to (scal_any hsc hr))⟩
  · generalize hids : (args.toList.flatMap fun x => refs2 (st.ev x)) = ids at h
    have hs1 := hs.frzs ids
    have hM : ∀ b, Mut C (st.frzs ids) L b → Mut C st L b := by
      rintro b (hx | ⟨i, hi, hl⟩)
      · exact .inl hx
      · obtain ⟨b', hb'⟩ := Option.isSome_iff_exists.1 hi
        obtain ⟨c, hc, _⟩ := frzs_mem ids st i b' hb'
        exact .inr ⟨i, by rw [hc]; rfl, hl⟩
    refine (hcall w (Mut C (st.frzs ids) L) (args.map a.eval) (fun b hb => ?_) (by simp) (hargs _ hM (fun x hx id hid e k xs hm b hb => ?_))).mono ?_
    · rcases hb with hx | ⟨i, hi, hl⟩
      · exact Nat.lt_of_lt_of_le (hs.old b hx) hs.size
      · exact (hs1.out i b hi hl).2.1
    · rintro (hX | ⟨i, hi, hl⟩)
      · exact (hs.out id b (by rw [hm]; rfl) hb).1 hX
      · obtain ⟨b', hb'⟩ := Option.isSome_iff_exists.1 hi
        obtain ⟨c, hc, _, hbox⟩ := frzs_mem ids st i b' hb'
        have : i = id := hs.inj i id b (by rw [hc]; rfl) (by rw [hm]; rfl) hl hb
        subst this
        have h4 := hbox (by rw [← hids]; exact List.mem_flatMap.2 ⟨x, hx, hid⟩)
        rw [hm] at hc
        cases hc
        exact h4 _ _ _ rfl
    · rintro e w' ⟨v, rfl, hb, hr⟩
      exact hn _ _ _ (by simp) h ⟨L, (hs1.later hb.os hb.tape hb.output hb.size hb.block).put _ (by simpa using hd) (repF_to hr)⟩
theorem look_rep (hs : SimL C st L a w) {x : A} {v : Value} (h : RepA st L w (Mut C st L) x v) : RepA st L w (fun _ => False) (look2 st x) v := by
  have base : ∀ {y : A} {v : Value}, RepA st L w (Mut C st L) y v → RepA st L w (fun _ => False) y v := fun h => h.ext (Ext.refl _ _) (fun b _ h => h.elim) (fun _ h => h) (shape_like _ _)
  have ref : ∀ {id : Nat} {v : Value} {e k : Nat} {xs : List (List T)}, st.mem id = some (.row e k xs) → RepA st L w (Mut C st L) (.ref id) v → RepT w (fun _ => False) (.sl k xs) v := fun {id v e k xs} hm h => by
    cases h with
    | ref _ _ h1 hus hq =>
      rw [hq _ _ _ hm]
      exact row_rep (hs.mem _ _ hm).2 (fun b hb => ⟨(hs.out id b (by rw [hm]; rfl) (.inl hb)).2.1, fun h => h⟩) (fun b _ h => h.elim)
  have cell : ∀ {y : A} {v : Value} {t : T}, lookC st y = some t → RepA st L w (Mut C st L) y v → RepT w (fun _ => False) t v := fun {y v t} hl h => by
    unfold lookC at hl
    split at hl
    · cases hl
      cases h with
      | t _ _ h => exact h.ext (Ext.refl _ _) fun b _ h => h.elim
    · split at hl
      · rename_i e k xs hm; cases hl; exact ref hm h
      · cases hl
    · cases hl
      exact .any v (h.one rfl)
    · cases hl
  have cells : ∀ {cs : List A} {ts : List T}, lookCs st cs = some ts → ts.length = cs.length ∧ ∀ j (hj : j < ts.length) (hj' : j < cs.length), lookC st (cs[j]) = some (ts[j]) := fun {cs} => by
    induction cs with
    | nil => intro ts h; cases h; exact ⟨rfl, fun j hj => by simp at hj⟩
    | cons c cs ih =>
      intro ts h
      unfold lookCs at h
      split at h
      · rename_i x l h1 h2
        cases h
        obtain ⟨h3, h4⟩ := ih h2
        refine ⟨by simp [h3], fun j hj hj' => ?_⟩
        cases j with
        | zero => exact h1
        | succ j => exact h4 j (by simpa using hj) (by simpa using hj')
      · cases h
  have one : ∀ {y : A} {v : Value}, RepA st L w (Mut C st L) y v → RepA st L w (fun _ => False) (look1 st y) v := fun {y v} h => by
    cases y with
    | ref id =>
      show RepA st L w _ (match st.mem id with | some (.row _ k xs) => .t (.sl k xs) | _ => .ref id) v
      split
      · rename_i e k xs hm; exact .t _ _ (ref hm h)
      · exact base h
    | ptr id off =>
      show RepA st L w _ (match st.mem id with | some (.box _ cs) => (match lookCs st (cs.drop off) with | some ts => .t (.fp ts) | none => .ptr id off) | _ => .ptr id off) v
      split
      · rename_i ty cs hm
        split
        · rename_i ts hts
          obtain ⟨hlen, hget⟩ := cells hts
          cases h with
          | ptr _ _ _ h1 hu hq =>
            obtain ⟨b, cells', hb, hw, hsz, hr⟩ := (hs.mem id _ hm).2
            rw [hq _ _ hm]
            unfold Loc.ptr
            rw [hb]
            rw [List.length_drop] at hlen
            have hin : ∀ j, j < ts.length → off + j < cs.length := fun j hj => by omega
            refine .t _ _ (.fp ts b off (fun j => cells'.getD (off + j) undef) (hs.out id b (by rw [hm]; rfl) (.inl hb)).2.1 (fun h => h) (fun j hj => ?_) fun j hj => ?_)
            · have := hin j hj
              have h2 : off + j < cells'.size := by omega
              simp only [World.cell?, hw]
              simp [h2, Array.getD_eq_getD_getElem?]
            · have h1 := hin j hj
              have h2 : off + j < cells'.size := by omega
              have := (hr (off + j) h1).2
              have h3 : lookC st (cs[off + j]) = some (ts[j]) := by
                have := hget j hj (by rw [List.length_drop]; omega)
                rw [List.getElem_drop] at this
                exact this
              have h4 : cells'.getD (off + j) undef = cells'[off + j] := by simp [Array.getD_eq_getD_getElem?, h2]
              rw [h4]
              exact cell h3 this
        · exact base h
      · exact base h
    | _ => exact base h
  have hsing : ∀ (y : A), y.single = true → (look1 st y).single = true := fun y hy => by
    cases y with
    | ref id => unfold look1 arg1; dsimp only; split <;> rfl
    | ptr id off => unfold look1; dsimp only; split <;> (try split) <;> rfl
    | _ => exact hy
  cases x with
  | agg cs =>
    cases h with
    | agg _ vs hsz h1 hr =>
      refine .agg _ _ (by simpa using hsz) (fun i hi => ?_) fun i hi => ?_
      · rw [List.getElem_map]; exact hsing _ (h1 i (by simpa using hi))
      · rw [List.getElem_map]; exact one (hr i (by simpa using hi))
  | _ => exact one h
theorem op_look {o : Oper} {K : St → Prop} (h : LookW P o st K) : Opk P o st K := by
  intro C a w hP ⟨L, hs⟩ hd next Q hn
  obtain ⟨⟨callee, args, ts⟩, f, r, ho, hc, hf, hflat, hsc, hK⟩ := h
  dsimp only at hc hf hflat
  subst hc
  obtain ⟨hpl, hcall⟩ := hf
  have run : (execOp a.eval o).run P w = .ok (.enter f (args.map a.eval)) w := by
    unfold execOp
    simp only [ho, resolve, Deferred.ofValue, invoke, Act.eval, Sem.run_bind, Sem.run_pure, Result.andThen_ok]
    rw [show #[] ++ Array.map a.eval args ++ #[] = args.map a.eval by simp]
    exact plain_enter hpl _ w
  unfold Oper.wp
  rw [run]
  refine (hcall w (fun _ => False) (args.map a.eval) (fun b hb => hb.elim) (by simp) (fun i hi => ?_)).mono ?_
  · have hi' : i < args.size := by simpa using hi
    have e2 : (args.map a.eval).getD i undef = a.eval args[i] := by
      rw [Array.getD_eq_getD_getElem?, Array.getElem?_eq_getElem (by simpa using hi')]; simp
    rw [e2]
    have hfl : flat2 ((args.toList.map fun y => look2 st (st.ev y))[i]) = true := List.all_eq_true.1 hflat _ (List.getElem_mem hi)
    simp only [List.getElem_map, Array.getElem_toList] at hfl ⊢
    exact repF_of hfl (look_rep hs (ev_rep hs _))
  · rintro e w' ⟨v, rfl, hb, hr⟩
    exact hn _ _ _ (by simp) hK ⟨L, (hs.later hb.os hb.tape hb.output hb.size hb.block).put _ hd (repF_to (scal_any hsc hr))⟩
theorem op_callv {o : Oper} {K : St → Prop} (h : CallV P o st K) : Opk P o st K := by
  intro C a w hP ⟨L, hs⟩ hd next Q hn
  obtain ⟨⟨callee, args, ts⟩, x, t, r, ho, hc, hx, hf, hflat, hsc, hK⟩ := h
  dsimp only at hc hf hflat hsc
  subst hc
  have hrx := ev_rep hs x
  rw [hx] at hrx
  have hlen : (args.map a.eval).size = args.size := by simp
  have main : ∀ (M' : Nat → Prop), (∀ b, M' b → b < w.heap.size) → (∀ b, M' b → Mut C st L b) → (∀ y ∈ args.toList, ∀ id ∈ refs2 (st.ev y), ∀ e k xs, st.mem id = some (.row e k xs) → ∀ b, (L id).has b → ¬ M' b) →
      ∃ f vals, (execOp a.eval o).run P w = .ok (.enter f vals) w ∧ Calls P f vals w fun e w' => ∃ v, e = .returned v ∧ Below w.heap.size w w' ∧ RepF w' M' r v := fun M' hlt hM hown => by
    have hargs : ∀ i (hi : i < args.size), RepF w M' (arg2 st (st.ev args[i])) ((args.map a.eval)[i]'(by simpa using hi)) := fun i hi => by
      have hmem : args[i] ∈ args.toList := by simp
      simp only [Array.getElem_map]
      exact repF_of (List.all_eq_true.1 hflat _ (List.mem_map.2 ⟨_, hmem, rfl⟩)) (arg_rep hs hM (hown _ hmem) (ev_rep hs _))
    rcases hf with ⟨f, caps, rfl, hf⟩ | ⟨f, rfl, hf⟩
    · generalize hv : a.eval x = v at hrx
      cases hrx with
      | t _ _ hr =>
        cases hr with
        | clo _ _ vs b off c hsz hva hcc hrr =>
          have run : (execOp a.eval o).run P w = .ok (.enter f (args.map a.eval ++ vs)) w := by
            unfold execOp
            simp only [ho, resolve, hv, Deferred.ofValue, invoke, Sem.run_bind, Sem.run_pure, Result.andThen_ok]
            rw [show #[] ++ Array.map a.eval args ++ vs = args.map a.eval ++ vs by simp]
            exact plain_enter hf.1 _ w
          refine ⟨f, _, run, hf.2 w M' _ hlt (by simp [hsz]) fun i hi => ?_⟩
          by_cases hi' : i < args.size
          · have e1 : ((args.toList.map fun y => arg2 st (st.ev y)) ++ caps.map fun c => A.t (.fp c))[i] = arg2 st (st.ev args[i]) := by
              rw [List.getElem_append_left (by simpa using hi')]; simp
            have e2 : (args.map a.eval ++ vs).getD i undef = (args.map a.eval)[i]'(by simpa using hi') := by
              rw [Array.getD_eq_getD_getElem?, Array.getElem?_append_left (by simpa using hi'), Array.getElem?_eq_getElem (by simpa using hi')]; rfl
            rw [e1, e2]; exact hargs i hi'
          · have hj : i - args.size < caps.length := by simp at hi; omega
            have e1 : ((args.toList.map fun y => arg2 st (st.ev y)) ++ caps.map fun c => A.t (.fp c))[i] = .t (.fp caps[i - args.size]) := by
              rw [List.getElem_append_right (by simpa using hi')]; simp
            have e2 : (args.map a.eval ++ vs).getD i undef = vs.getD (i - args.size) undef := by
              rw [Array.getD_eq_getD_getElem?, Array.getElem?_append_right (by simpa using hi'), Array.getD_eq_getD_getElem?]; simp
            obtain ⟨q1, q2, q3⟩ := hva _ hj
            rw [e1, e2, q1]
            exact .t _ _ (.fp _ _ _ _ q2 (fun h => q3 (hM _ h)) (hcc _ hj) fun j hj' => (hrr _ hj j hj').ext (Ext.refl _ _) fun b _ => hM b)
    · have hv := rep_val hrx
      have run : (execOp a.eval o).run P w = .ok (.enter f (args.map a.eval)) w := by
        unfold execOp
        simp only [ho, resolve, hv, Deferred.ofValue, invoke, Sem.run_bind, Sem.run_pure, Result.andThen_ok]
        rw [show #[] ++ Array.map a.eval args ++ #[] = args.map a.eval by simp]
        exact plain_enter hf.1 _ w
      refine ⟨f, _, run, hf.2 w M' _ hlt (by simp) fun i hi => ?_⟩
      have hi' : i < args.size := by simpa using hi
      have e2 : (args.map a.eval).getD i undef = (args.map a.eval)[i]'(by simpa using hi') := by
        rw [Array.getD_eq_getD_getElem?, Array.getElem?_eq_getElem (by simpa using hi')]; rfl
      rw [e2]
      simpa using hargs i hi'
  unfold Oper.wp
  rcases hsc with hsc | hnil
  · obtain ⟨f, vals, run, hcall⟩ := main (fun _ => False) (fun _ h => h.elim) (fun _ h => h.elim) (fun _ _ _ _ _ _ _ _ _ _ h => h)
    rw [run]
    refine hcall.mono ?_
    rintro e w' ⟨v, rfl, hb, hr⟩
    exact hn _ _ _ (by simp) hK ⟨L, (hs.later hb.os hb.tape hb.output hb.size hb.block).put _ hd (repF_to (scal_any hsc hr))⟩
  · obtain ⟨f, vals, run, hcall⟩ := main (Mut C st L) (fun b hb => by
      rcases hb with hx | ⟨i, hi, hl⟩
      · exact Nat.lt_of_lt_of_le (hs.old b hx) hs.size
      · exact (hs.out i b hi hl).2.1) (fun _ h => h) (fun y hy id hid e k xs hm b hb => by
        have : id ∈ (args.toList.map st.ev).flatMap refs2 := by rw [List.flatMap_map]; exact List.mem_flatMap.2 ⟨y, hy, hid⟩
        rw [hnil] at this; simp at this)
    rw [run]
    refine hcall.mono ?_
    rintro e w' ⟨v, rfl, hb, hr⟩
    exact hn _ _ _ (by simp) hK ⟨L, (hs.later hb.os hb.tape hb.output hb.size hb.block).put _ hd (repF_to hr)⟩
theorem op_callio {o : Oper} {K : St → Prop} (f : FuncId) (args : Array Operand) (ts : Array TypeId) (ho : o.op = .call { callee := .value (.func f), args := args, argTypes := ts }) (h : CallIO P f o.dst (args.toList.map st.ev) st K) : Opk P o st K := by
  intro C a w hP ⟨L, hs⟩ hd next Q hn
  obtain ⟨cargs, m, r, m', ρ, ν, hf, htup, _, hc, _, hargs, hK⟩ := h
  have run : (execOp a.eval o).run P w = .ok (.enter f (args.map a.eval)) w := by
    unfold execOp
    simp only [ho, resolve, Deferred.ofValue, invoke, Act.eval, Sem.run_bind, Sem.run_pure, Result.andThen_ok]
    rw [show #[] ++ Array.map a.eval args ++ #[] = args.map a.eval by simp]
    exact plain_enter hf.1 _ w
  unfold Oper.wp
  rw [run]
  subst hP
  refine (call_io hs hf hc (args.map a.eval) (args.toList.map st.ev) (by simp) (fun i hi => ?_) hargs htup).mono ?_
  · have hi' : i < args.size := by simpa using hi
    have e : (args.map a.eval).getD i undef = a.eval (args[i]) := by simp [Array.getD_eq_getD_getElem?, hi']
    rw [e]
    simp only [List.getElem_map, Array.getElem_toList]
    exact ev_rep hs _
  · rintro e w' ⟨v, L3, rfl, hs', hr⟩
    exact hn _ _ _ (by simp [St.back]) hK ⟨L3, hs'.put _ hd hr⟩
end Go.Proofs.Ytblikpgdepjhdaa
namespace Go.Proofs.Ytblikpgdepjhdaa
open Go.RowKit
set_option linter.unusedVariables false
variable {C : Ctx} {st st' : St} {L L' : Nat → Loc} {a : Act} {w : World} {P : Program}
theorem op_store_row {o : Oper} {K : St → Prop} (t : TypeId) (p x : Operand) (ho : o.op = .store t p x) (ti : TI) (cs : List A) (ht : tinfo P t = some ti) (hc : cellsOf (st.ev x) = some cs) (hsz : cs.length = ti.size)
    (id i j : Nat) (e : TypeId) (k : Nat) (xs : List (List T)) (el l : List T) (hp : st.ev p = .rptr id i j) (hm : st.mem id = some (.row e k xs)) (hel : xs[i]? = some el) (hl : cellsT cs = some l) (hfit : j + l.length ≤ el.length)
    (h : K ((st.setm id (.row e k (xs.set i (el.take j ++ l ++ el.drop (j + l.length))))).put o.dst .dead)) : Opk P o st K := by
  intro C a w hP ⟨L, hs⟩ hd next Q hn
  obtain ⟨inf, d, z, hi, hu, hz, h1, h2, h3, h4, h5, h6, h7, h8, h9⟩ := (tparts ht).ex
  obtain ⟨hvs, hvr⟩ := repCs_cells hc (ev_rep hs x)
  obtain ⟨hll, hlg⟩ := cellsT_get cs l hl
  have hpr := ev_rep hs p
  rw [hp] at hpr
  generalize hv : a.eval p = v at hpr
  cases hpr with
  | rptr _ _ _ _ q1 q2 q3 =>
    obtain ⟨hi', rfl⟩ := List.getElem?_eq_some_iff.1 hel
    obtain ⟨h0, hk, hq⟩ := (hs.mem _ _ hm).2
    rcases hq with ⟨hxs, _⟩ | ⟨b, cur, hb, hw, hle, hcm, hcs, hcc⟩
    · subst hxs; simp at hi'
    · have e1 : v = .pointer (some ⟨b, i * k + j, none⟩) := by rw [q3 _ _ _ hm]; simp [Loc.ptr, hb]
      have hki := hk i hi'
      have hik : (i + 1) * k ≤ xs.length * k := Nat.mul_le_mul_right _ hi'
      have hlk : xs.length * k ≤ (L id).cap * k := Nat.mul_le_mul_right _ hle
      have hexp : (i + 1) * k = i * k + k := by rw [Nat.add_mul, Nat.one_mul]
      have hfit' : (i * k + j) + (a.eval x).cells.size ≤ cur.size := by rw [hvs, hcs]; omega
      have hone : ∀ u ∈ (a.eval x).cells.toList, u.oneCell' = true := fun u hu => by
        obtain ⟨q, hq, rfl⟩ := List.getElem_of_mem hu
        have hq' : q < cs.length := by simp at hq; omega
        obtain ⟨hs1, u, hu, hr⟩ := hvr q _ (List.getElem?_eq_getElem hq')
        have : (a.eval x).cells[q]? = some u := hu
        rw [Array.getElem?_eq_getElem (by omega)] at this
        cases this
        exact hr.one hs1
      have hrun := run_store (P := P) hw hi (a.eval x) (i * k + j) (by rw [hvs, hsz, h1]) hfit' hone
      generalize hel' : (xs[i]).take j ++ l ++ (xs[i]).drop (j + l.length) = el' at h
      have hel'l : el'.length = k := by rw [← hel', splice_len _ _ _ hfit, hki]
      refine wp_skipped (w' := _) (by unfold execOp; simp only [ho, hv, e1]; rw [Sem.run_bind, hrun]; rfl) (hn _ _ _ (by simp; rfl) h ⟨L, SimL.put (hs.setm id _ (.row e k (xs.set i el')) hm ⟨rfl, by simp⟩ b hb ?_) _ hd (.dead _)⟩)
      have hl2 : ((cur.toList.take (i * k + j) ++ (a.eval x).cells.toList ++ cur.toList.drop ((i * k + j) + (a.eval x).cells.toList.length)).toArray).size = cur.size := by
        rw [List.size_toArray, splice_len _ _ _ (by simpa using hfit')]; simp
      refine ⟨h0, fun q hq => ?_, .inr ⟨b, _, hb, setRow_heap w b cur _ e _ hw, by simpa using hle, hcm, by rw [hl2]; exact hcs, fun q hq r hr => ?_⟩⟩
      · by_cases eq : q = i
        · subst eq; simp [hel'l]
        · rw [List.getElem_set_ne (fun h => eq h.symm)]; exact hk q (by simpa using hq)
      · have hq' : q < xs.length := by simpa using hq
        have ext : ∀ {y : T} {u : Value}, RepT w (Mut C st L) y u → RepT (w.setRow b (cur.toList.take (i * k + j) ++ (a.eval x).cells.toList ++ cur.toList.drop ((i * k + j) + (a.eval x).cells.toList.length)).toArray) (Mut C st L) y u := fun hy =>
          hy.ext ⟨by simp, fun k hk hm' => setRow_other w b k _ fun e => hm' (.inr ⟨id, by rw [hm]; rfl, by rw [e]; exact .inl hb⟩)⟩ (fun _ _ h => h)
        have g2 := splice_get cur.toList (a.eval x).cells.toList (i * k + j) (q * k + r) (by simpa using hfit')
        have ell : (a.eval x).cells.toList.length = cs.length := by simpa using hvs
        rw [List.getElem?_toArray, g2]
        by_cases eq : q = i
        · subst eq
          have hr' : r < el'.length := by simpa using hr
          have e3 : (xs.set q el')[q]'hq = el' := by simp
          simp only [e3]
          have hgr : (el'[r]? : Option T) = some (el'[r]) := List.getElem?_eq_getElem hr'
          have hgr0 : ((xs[q]).take j ++ l ++ (xs[q]).drop (j + l.length))[r]? = some (el'[r]) := by rw [hel']; exact hgr
          rw [splice_get _ _ _ _ hfit] at hgr0
          have old : ∀ tt, (xs[q])[r]? = some tt → ∃ c, cur.toList[q * k + r]? = some c ∧ RepT w (Mut C st L) tt c := fun tt htt => by
            obtain ⟨z1, rfl⟩ := List.getElem?_eq_some_iff.1 htt
            obtain ⟨c, hc1, hc2⟩ := hcc q hq' r z1
            exact ⟨c, by simpa using hc1, hc2⟩
          by_cases c1 : r < j
          · rw [if_pos c1] at hgr0
            rw [if_pos (by omega)]
            obtain ⟨c, hc1, hc2⟩ := old _ hgr0
            exact ⟨c, hc1, ext hc2⟩
          · rw [if_neg c1] at hgr0
            rw [if_neg (by omega)]
            by_cases c2 : r < j + l.length
            · rw [if_pos c2] at hgr0
              rw [if_pos (by omega), show q * k + r - (q * k + j) = r - j by omega]
              have hrj : r - j < cs.length := by omega
              have hy := hlg (r - j) _ _ (List.getElem?_eq_getElem hrj) hgr0
              obtain ⟨_, u, hu, hrep⟩ := hvr (r - j) _ (List.getElem?_eq_getElem hrj)
              rw [hy] at hrep
              exact ⟨u, by simpa using hu, ext (rep_t hrep)⟩
            · rw [if_neg c2] at hgr0
              rw [if_neg (by omega)]
              obtain ⟨c, hc1, hc2⟩ := old _ hgr0
              exact ⟨c, hc1, ext hc2⟩
        · have e3 : (xs.set i el')[q]'hq = xs[q] := List.getElem_set_ne (fun h => eq h.symm) _
          simp only [e3]
          have hr' : r < (xs[q]).length := by simpa [e3] using hr
          have hkq := hk q hq'
          obtain ⟨c, hc1, hc2⟩ := hcc q hq' r hr'
          refine ⟨c, ?_, ext hc2⟩
          have hout : q * k + r < i * k + j ∨ i * k + j + cs.length ≤ q * k + r := by
            rcases Nat.lt_or_gt_of_ne eq with hlt | hgt
            · have : (q + 1) * k ≤ i * k := Nat.mul_le_mul_right _ hlt
              rw [Nat.add_mul] at this
              left; omega
            · have : (i + 1) * k ≤ q * k := Nat.mul_le_mul_right _ hgt
              right; omega
          rcases hout with ho1 | ho1
          · rw [if_pos ho1]; simpa using hc1
          · rw [if_neg (by omega), if_neg (by omega)]; simpa using hc1
theorem step_sound0 {o : Oper} {K : St → Prop} (h : stepW0 P o st K) : Opk P o st K := by
  unfold stepW0 at h
  split at h
  · exact op_move _ (.inl (by assumption)) h
  · exact op_move _ (.inr (by assumption)) h
  · obtain ⟨t, hc, h⟩ := h
    exact op_pick _ _ _ (by assumption) t hc h
  · obtain ⟨d, ti, h1, h2, h3, h⟩ := h
    exact op_alloc _ (by assumption) d ti h1 h2 h3 h
  · obtain ⟨d, cs, h1, h2, h3, h⟩ := h
    exact op_box _ _ (by assumption) d cs h1 h2 h3 h
  · obtain ⟨ti, cs, h1, h2, h3, h⟩ := h
    exact op_build _ _ (by assumption) ti cs h1 h2 h3 h
  · obtain ⟨d, ti, e, te, xs, h1, h2, h3, h4, h5, h6, h7, h8, h9, h⟩ := h
    exact op_buildSlice _ _ _ (by assumption) d ti e te xs h1 h2 h3 h4 h5 h6 h7 h8 _ h9 h
  · obtain ⟨ti, x, h1, h2, h⟩ := h
    exact op_load _ _ (by assumption) ti x h1 h2 h
  · obtain ⟨ti, cs, h1, h2, h3, h⟩ := h
    rcases h with ⟨id, off, ty, cells, h4, h5, h6, h⟩ | ⟨id, i, j, e, k, xs, el, l, h4, h5, h6, h7, h8, h⟩
    · exact op_store _ _ _ (by assumption) ti cs id off ty cells h1 h2 h3 h4 h5 h6 h
    · exact op_store_row _ _ _ (by assumption) ti cs h1 h2 h3 id i j e k xs el l h4 h5 h6 h7 h8 h
  · exact op_nil _ (by assumption) h.1 h.2
  · obtain ⟨z, h1, h2, h⟩ := h
    exact op_bin _ _ _ _ _ (by assumption) z h2 h1 h
  · obtain ⟨y, z, h1, h2, h3, h⟩ := h
    exact op_un _ _ _ (by assumption) y z h1 h2 h3 h
  · obtain ⟨z, h1, h2, h⟩ := h
    exact op_convert _ _ _ (by assumption) z h1 h2 h
  · obtain ⟨ti, z, h1, h2, h3, h4, h⟩ := h
    exact op_fieldAddr _ _ _ (by assumption) ti z h1 h3 h4 h
  · obtain ⟨ti, z, h1, h2, h3, h⟩ := h
    exact op_field _ _ _ (by assumption) ti z h1 h3 h
  · obtain ⟨ti, e, te, k', xs, k, n, el, h1, h2, h3, h4, h5, h6, h7, h⟩ := h
    exact op_indexAddr _ _ _ (by assumption) ti e te k' xs k n el h1 h2 h3 h4 h5 h6 h7 h
  · obtain ⟨s, k, n, b, h1, h2, h3, h4, h⟩ := h
    exact op_index _ _ _ (by assumption) s k n b h1 h2 h3 h4 h
  · obtain ⟨cs, y, h1, h2, h⟩ := h
    exact op_extract _ _ (by assumption) cs y h1 h2 h
  · rename_i c ho
    obtain ⟨callee, args, ts⟩ := c
    dsimp only at h
    split at h
    · rename_i x ty tl ha ht
      obtain ⟨z, h2, h⟩ := h
      have ha' : args = #[x] := by rw [← Array.toList_inj]; simpa using ha
      subst ha'
      exact op_len _ _ ho ty z (by rw [← Array.getElem?_toList, ht]; rfl) h2 h
    · rename_i x y t t' ha ht
      obtain ⟨d, ti, e, te, k'', ys, rfl, h1, h2, h3, h4, h5, h6, h7, h8, h⟩ := h
      have ha' : args = #[x, y] := by rw [← Array.toList_inj]; simpa using ha
      have ht' : ts = #[t, t] := by rw [← Array.toList_inj]; simpa using ht
      subst ha' ht'
      exact op_append _ _ _ ho d ti e te k'' ys h1 h2 h3 h4 h5 h6 h7 h8 h
    · rename_i f
      rcases h with ⟨r, h1, h2, h⟩ | h
      · exact op_call _ _ _ ho r h1 h2 h
      · exact op_callio _ _ _ ho h
    · exact h.elim
  · exact h.elim
theorem args_rep (hs : SimL C st L a w) {o : Oper} (hflat : (argsOf o st).all flat2 = true) {M' : Nat → Prop} (hM : ∀ b, M' b → Mut C st L b) (hx : ∀ x ∈ opL o.op, ∀ id ∈ refs2 (st.ev x), ∀ e k xs, st.mem id = some (.row e k xs) → ∀ b, (L id).has b → ¬ M' b) :
    (argsOf o st).length = (opL o.op).length ∧ ∀ i (hi : i < (argsOf o st).length) (hi' : i < (opL o.op).length), RepF w M' ((argsOf o st)[i]) (a.eval ((opL o.op)[i])) := by
  refine ⟨by simp [argsOf], fun i hi hi' => ?_⟩
  have hf := List.all_eq_true.1 hflat _ (List.getElem_mem hi)
  simp only [argsOf, List.getElem_map] at hf ⊢
  exact repF_of hf (arg_rep hs hM (hx _ (List.getElem_mem hi')) (ev_rep hs _))
theorem other_sound {o : Oper} {K : St → Prop} (h : Other P o st K) : Opk P o st K := by
  intro C a w hP ⟨L, hs⟩ hd next Q hn
  obtain ⟨hflat, h⟩ := h
  have hno : noRefs o st = true → ∀ x ∈ opL o.op, ∀ id ∈ refs2 (st.ev x), False := fun h x hx id hid => by
    have : id ∈ (opL o.op).flatMap fun x => refs2 (st.ev x) := List.mem_flatMap.2 ⟨x, hx, hid⟩
    unfold noRefs at h
    rw [List.isEmpty_iff.1 h] at this
    simp at this
  rcases h with ⟨x, hq, hsc, hK⟩ | ⟨d, e, k, ys, hdst, hu, ⟨h0, hm⟩, ⟨hnr, _⟩, hK⟩
  · rcases hsc with hsc | hnr
    · obtain ⟨h1, h2⟩ := args_rep hs hflat (M' := fun _ => False) (fun _ h => h.elim) (fun _ _ _ _ _ _ _ _ _ _ h => h)
      obtain ⟨v, w', hv, hb, hr⟩ := hq w (fun _ => False) a.eval (fun _ h => h.elim) h1 h2
      exact wp_value hv (hn _ _ _ (by simp) hK ⟨L, (hs.later hb.os hb.tape hb.output hb.size hb.block).put _ hd (repF_to (scal_any hsc hr))⟩)
    · obtain ⟨h1, h2⟩ := args_rep hs hflat (M' := Mut C st L) (fun _ h => h) (fun x hx id hid _ _ _ _ _ _ => (hno hnr x hx id hid).elim)
      obtain ⟨v, w', hv, hb, hr⟩ := hq w (Mut C st L) a.eval (fun b hb => by
        rcases hb with hx | ⟨i, hi, hl⟩
        · exact Nat.lt_of_lt_of_le (hs.old b hx) hs.size
        · exact (hs.out i b hi hl).2.1) h1 h2
      exact wp_value hv (hn _ _ _ (by simp) hK ⟨L, (hs.later hb.os hb.tape hb.output hb.size hb.block).put _ hd (repF_to hr)⟩)
  · obtain ⟨h1, h2⟩ := args_rep hs hflat (M' := Mut C st L) (fun _ h => h) (fun x hx id hid _ _ _ _ _ _ => (hno hnr x hx id hid).elim)
    obtain ⟨cur, cap, w1, q1, q2, q3, q4, q5, q6, q7, q8, q9, hrun⟩ := hm w (Mut C st L) a.eval h1 h2
    refine wp_value hrun (hn _ _ _ (by simp [St.new]) hK (new_row hs d hu e k h0 ys q8 cur cap q5 q6 q7 q1 q2 q3 q4 q9 _ hdst (hd d hdst)))
theorem newobj_sound {o : Oper} {K : St → Prop} (h : ∃ od d, newsObj o = true ∧ o.dst = some d ∧ st.used d = false ∧ noRefs o st = true ∧ (argsOf o st).all flat2 = true ∧ NewObj P o (argsOf o st) od ∧ K ((st.new d (.obj od)).put o.dst (.ob d))) : Opk P o st K := by
  obtain ⟨od, d, _, hdst, hu, hnr, hflat, hm, hK⟩ := h
  intro C a w hP ⟨L, hs⟩ hd next Q hn
  have hno : ∀ x ∈ opL o.op, ∀ id ∈ refs2 (st.ev x), False := fun x hx id hid => by
    have : id ∈ (opL o.op).flatMap fun x => refs2 (st.ev x) := List.mem_flatMap.2 ⟨x, hx, hid⟩
    unfold noRefs at hnr
    rw [List.isEmpty_iff.1 hnr] at this
    simp at this
  obtain ⟨h1, h2⟩ := args_rep hs hflat (M' := Mut C st L) (fun _ h => h) (fun x hx id hid _ _ _ _ _ _ => (hno x hx id hid).elim)
  obtain ⟨ob, w1, q1, q2, q3, q4, q5, q6, hrun⟩ := hm w (Mut C st L) a.eval (fun b hb => by
    rcases hb with hx | ⟨i, hi, hl⟩
    · exact Nat.lt_of_lt_of_le (hs.old b hx) hs.size
    · exact (hs.out i b hi hl).2.1) h1 h2
  have hsize : w1.heap.size = w.heap.size := by rw [q1]
  have hold : ∀ b, b < w.heap.size → (w1.alloc ob).heap[b]? = w.heap[b]? := fun b hb => by rw [Below.heap_alloc w1 _ _ (by omega), q1]
  have hs1 : SimL C (st.new d (.obj od)) (upd L d (Loc.at_ w.heap.size 0)) a (w1.alloc ob) := by
    refine hs.new d (.inl (hd d hdst)) hu _ _ q2 q3 q4 (by simp; omega) hold (fun b hb => by cases at_has hb; simp; omega) (fun M hM => ⟨w.heap.size, ob, by rw [upd_same], by rw [← hsize]; exact heap_alloc_new w1 _, ?_⟩)
    exact q5.move q6 ⟨by simp; omega, fun k hk _ => hold k hk⟩ hM
  refine wp_value hrun (hn _ _ _ (by simp [St.new]) hK ⟨_, hs1.put _ hd (.ob d _ (by unfold Loc.ob; split <;> rfl) (by simp [St.new, upd]) fun od' hm' => ?_)⟩)
  have : od = od' := by simpa [St.new, upd] using hm'
  subst this
  rw [upd_same]
theorem step_sound {o : Oper} {K : St → Prop} (h : stepW P o st K) : Opk P o st K := by
  rcases h with h | h | (⟨i, b, xs, b', id, d, _, h1, h2, h3, h4, h5, h6, hK⟩ | ⟨i, b, xs, b', r, id, _, h1, h2, h3, _, h4, hK⟩ | h) | h | h
  · exact step_sound0 h
  · exact other_sound h
  · exact h6 st id d K h1 h2 h3 h4 h5 hK
  · exact h4 st id K h1 h2 h3 hK
  · exact newobj_sound h
  · exact op_callv h
  · exact op_look h
def opsOk (ops : Array Oper) (n : Nat) : Bool := ops.toList.all fun o => match o.dst with | some d => decide (d < n) | none => true
theorem opsOk_dst {ops : Array Oper} {n : Nat} (h : opsOk ops n = true) {i : Nat} {o : Oper} (ho : ops[i]? = some o) : ∀ d, o.dst = some d → d < n := by
  intro d hd
  have := List.all_eq_true.1 h o (List.mem_of_getElem? (by simpa using ho))
  rw [hd] at this
  exact of_decide_eq_true this
theorem runW_sound (ops : Array Oper) : ∀ (l : List Nat) (st : St) (K : St → Prop), runW P ops l st K → opsOk ops st.n = true → ∀ (C : Ctx) (a : Act) (w : World), C.P = P → Sim C st a w → ∀ Q : Exit → Act → World → Prop,
    (∀ st' a' w', st'.n = st.n → K st' → Sim C st' a' w' → Q .normal a' w') → wpOps P ops Q l a w
  | [], st, K, h, hok, C, a, w, hP, hs, Q, hn => hn st a w rfl h hs
  | i :: rest, st, K, h, hok, C, a, w, hP, hs, Q, hn => by
    simp only [runW] at h
    simp only [wpOps]
    cases ho : ops[i]? with
    | none => simp only [ho] at h ⊢; exact runW_sound ops rest st K h hok C a w hP hs Q hn
    | some o =>
      simp only [ho] at h ⊢
      have hd := opsOk_dst hok ho
      have go : (∃ ids, Opk P o (st.frzs ids) (fun st' => runW P ops rest st' K)) → o.wp P a w (wpOps P ops Q rest) Q := fun ⟨ids, h⟩ => by
        obtain ⟨L, hsL⟩ := hs
        have hnn : (st.frzs ids).n = st.n := by simp
        exact h C a w hP ⟨L, hsL.frzs ids⟩ (by rw [hnn]; exact hd) _ Q fun st' a' w' hn' hK hs' => runW_sound ops rest st' K hK (by rw [hn', hnn]; exact hok) C a' w' hP hs' Q fun s a w h1 h2 h3 => hn s a w (by rw [h1, hn', hnn]) h2 h3
      cases hg : o.guard with
      | none =>
        simp only [hg] at h
        have : Region.wanted o (yielded ops a.tmps) = true := by simp [Region.wanted, hg]
        rw [if_pos this]
        exact .inl (go h)
      | some jw =>
        obtain ⟨j, want⟩ := jw
        simp only [hg] at h
        have skip : runW P ops rest (st.put o.dst (.tup [])) K → ¬ Region.wanted o (yielded ops a.tmps) = true → wpOps P ops Q rest (a.put o.dst undef) w := fun h2 this => by
          obtain ⟨L, hs'⟩ := hs
          have hsim : Sim C (st.put o.dst (.tup [])) (a.put o.dst undef) w := ⟨L, hs'.put _ hd (.tup _ _ rfl fun i hi => by simp at hi)⟩
          exact runW_sound ops rest _ K h2 (by simpa using hok) C _ w hP hsim Q fun s a w h1 h2 h3 => hn s a w (by simpa using h1) h2 h3
        rcases h with ⟨b, hb, h1, h2⟩ | ⟨hb, h2⟩
        case inr =>
          have hy : yielded ops a.tmps j = none := by
            unfold guardOf at hb
            unfold yielded
            split at hb
            · rename_i d hd'
              rw [hd']
              obtain ⟨L, hs⟩ := hs
              have e := hs.env d
              rw [hb] at e
              generalize hv : a.tmps.getD d undef = v at e
              cases e with
              | tup _ vs hsz _ =>
                rw [Array.getD_eq_getD_getElem?] at hv
                cases ht : a.tmps[d]? with
                | none => simp [ht]
                | some v => rw [ht] at hv; simp at hv; subst hv; simp [ht]
            · cases hb
          have : ¬ Region.wanted o (yielded ops a.tmps) = true := by simp [Region.wanted, hg, hy]
          rw [if_neg this]
          exact skip h2 this
        have hy : yielded ops a.tmps j = some b := by
          unfold guardOf at hb
          unfold yielded
          split at hb
          · rename_i d hd'
            rw [hd']
            obtain ⟨L, hs⟩ := hs
            have e := rep_val (hb ▸ hs.env d)
            rw [Array.getD_eq_getD_getElem?] at e
            cases ht : a.tmps[d]? with
            | none => rw [ht] at e; simp [undef] at e
            | some v => rw [ht] at e; simp at e; subst e; simp [ht]
          · cases hb
        by_cases hbw : b = want
        · subst hbw
          have : Region.wanted o (yielded ops a.tmps) = true := by simp [Region.wanted, hg, hy]
          rw [if_pos this]
          exact .inl (go (h1 rfl))
        · have : ¬ Region.wanted o (yielded ops a.tmps) = true := by simp [Region.wanted, hg, hy, hbw]
          rw [if_neg this]
          exact skip (h2 hbw) this
def W (P : Program) (c : Code) (st : St) (Q : Exit → St → Prop) : Prop :=
  ∀ (C : Ctx) (a : Act) (w : World), C.P = P → Sim C st a w → c.wp P (fun e a' w' => ∃ st', st'.n = st.n ∧ Q e st' ∧ Sim C st' a' w') a w
theorem W_region {id : Nat} {ops : Array Oper} {Q : Exit → St → Prop} (hok : opsOk ops st.n = true) (h : runW P ops (List.range ops.size) st (Q .normal)) : W P (.region id ops false) st Q :=
  fun C a w hP hs => wp_region (runW_sound ops _ st _ h hok C a w hP hs _ fun st' a' w' h1 h2 h3 => ⟨st', h1, h2, h3⟩)
theorem W_skip {Q : Exit → St → Prop} (h : Q .normal st) : W P .skip st Q := fun C a w hP hs => wp_skip ⟨st, rfl, h, hs⟩
theorem W_exit {id : Nat} {Q : Exit → St → Prop} (h : Q (.exit id) st) : W P (.exit id) st Q := fun C a w hP hs => wp_exit ⟨st, rfl, h, hs⟩
theorem W_ret {Q : Exit → St → Prop} (h : Q .ret st) : W P .ret st Q := fun C a w hP hs => wp_ret ⟨st, rfl, h, hs⟩
def thenQ (P : Program) (y : Code) (Q : Exit → St → Prop) : Exit → St → Prop
  | .normal, st => W P y st Q
  | e, st => Q e st
theorem W_seq {x y : Code} {Q : Exit → St → Prop} (h : W P x st (thenQ P y Q)) : W P (.seq x y) st Q := fun C a w hP hs =>
  wp_seq (wp_mono (h C a w hP hs) fun e a' w' ⟨st', h1, h2, h3⟩ => by
    cases e with
    | normal => exact wp_mono (h2 C a' w' hP h3) fun e a w ⟨s, q1, q2, q3⟩ => ⟨s, by rw [q1, h1], q2, q3⟩
    | _ => exact ⟨st', h1, h2, h3⟩)
theorem W_cond {c : Operand} {x y : Code} {Q : Exit → St → Prop} (b : Bool) (hc : st.ev c = .v (.bool b)) (ht : b = true → W P x st Q) (hf : b = false → W P y st Q) : W P (.cond c x y) st Q := fun C a w hP hs => by
  obtain ⟨L, hs'⟩ := hs
  have e := rep_val (hc ▸ ev_rep hs' c)
  exact wp_cond_split e (fun hb => ht hb C a w hP ⟨L, hs'⟩) (fun hb => hf hb C a w hP ⟨L, hs'⟩)
def blockQ (id : Nat) (Q : Exit → St → Prop) : Exit → St → Prop
  | .exit i, st => if i = id then Q .normal st else Q (.exit i) st
  | e, st => Q e st
theorem W_block {id : Nat} {c : Code} {Q : Exit → St → Prop} (h : W P c st (blockQ id Q)) : W P (.block id c) st Q := fun C a w hP hs =>
  wp_block (wp_mono (h C a w hP hs) fun e a' w' ⟨st', h1, h2, h3⟩ => by
    cases e with
    | exit i =>
      simp only [Exit.inBlock]
      simp only [blockQ] at h2
      split
      · rename_i hi; rw [if_pos hi] at h2; exact ⟨st', h1, h2, h3⟩
      · rename_i hi; rw [if_neg hi] at h2; exact ⟨st', h1, h2, h3⟩
    | _ => exact ⟨st', h1, h2, h3⟩)
def Fits (st st' : St) : Prop := st'.n = st.n ∧ ∀ (C : Ctx) (a : Act) (w : World), Sim C st a w → Sim C st' a w
theorem Fits.refl (st : St) : Fits st st := ⟨rfl, fun _ _ _ h => h⟩
def loopQ {σ : Type} (inv : σ → Prop) (μ : σ → Nat) (s : σ → St) (x : σ) (Q : Exit → St → Prop) : Exit → St → Prop
  | .normal, st => ∃ x', inv x' ∧ μ x' < μ x ∧ Fits st (s x')
  | e, st => Q e st
theorem W_loop {σ : Type} (inv : σ → Prop) (μ : σ → Nat) (s : σ → St) {c : Code} {Q : Exit → St → Prop} (x0 : σ) (h0 : inv x0) (hf : Fits st (s x0)) (hn : ∀ x, (s x).n = st.n)
    (h : ∀ x, inv x → W P c (s x) (loopQ inv μ s x Q)) : W P (.loop c) st Q := fun C a w hP hs => by
  refine wp_loop_ghost (fun n a w => ∃ x, inv x ∧ μ x = n ∧ Sim C (s x) a w) (μ x0) ⟨x0, h0, rfl, hf.2 C a w hs⟩ ?_
  rintro n a w ⟨x, hi, rfl, hs⟩
  refine wp_mono (h x hi C a w hP hs) fun e a' w' ⟨st', h1, h2, h3⟩ => ?_
  cases e with
  | normal =>
    obtain ⟨x', hi', hlt, hfit⟩ := h2
    exact ⟨μ x', hlt, x', hi', rfl, hfit.2 C a' w' h3⟩
  | _ => exact ⟨st', by rw [h1, hn], h2, h3⟩
end Go.Proofs.Ytblikpgdepjhdaa
namespace Go.Proofs.Ytblikpgdepjhdaa
open Go.RowKit
set_option linter.unusedVariables false
variable {C : Ctx} {st st' st2 : St} {L L' : Nat → Loc} {a : Act} {w : World} {P : Program}
section fit
variable {ρ : Nat → Option Nat} {es : List (Nat × A)} {ms : List (Nat × Blk)}
theorem fits (hρ : ∀ i, i < 1000 → ρ i = some i) (hf : FitR ρ st es ms) : Fits st (mkSt st.n es ms) := by
  refine ⟨rfl, fun C a w ⟨L, hs⟩ => ⟨fun i => match ρ i with | some j => L j | none => nol, ?_⟩⟩
  generalize hLd : (fun i => match ρ i with | some j => L j | none => (nol : Loc)) = L'
  have hL : ∀ i, L' i = match ρ i with | some j => L j | none => nol := fun i => by rw [← hLd]
  have hmm : ∀ i b', (mkSt st.n es ms).mem i = some b' → (i, b') ∈ ms := fun i b' h => look_mem h
  have hsrc : ∀ i b', (mkSt st.n es ms).mem i = some b' → ∀ b, (L' i).has b → ∃ j, ρ i = some j ∧ (st.mem j).isSome = true ∧ (L j).has b := fun i b' hi b hb => by
    have := hf.hms _ (hmm i b' hi)
    unfold leM at this
    rw [hL] at hb
    cases hj : ρ i with
    | none => rw [hj] at hb; exact (nol_has hb).elim
    | some j =>
      rw [hj] at hb this
      obtain ⟨c, hc, _⟩ := this
      exact ⟨j, rfl, by rw [hc]; rfl, hb⟩
  have hM : ∀ b, Mut C (mkSt st.n es ms) L' b → Mut C st L b := by
    rintro b (hx | ⟨i, hi, hl⟩)
    · exact .inl hx
    · obtain ⟨b', hb'⟩ := Option.isSome_iff_exists.1 hi
      obtain ⟨j, _, h1, h2⟩ := hsrc i b' hb' b hl
      exact .inr ⟨j, h1, h2⟩
  have hfz : ∀ j, (∀ p ∈ ms, ρ p.1 ≠ some j) → (st.mem j).isSome = true → ∀ b, (L j).has b → ¬ Mut C (mkSt st.n es ms) L' b := by
    rintro j hne hj b hb (hx | ⟨i, hi, hl⟩)
    · exact (hs.out j b hj hb).1 hx
    · obtain ⟨b', hb'⟩ := Option.isSome_iff_exists.1 hi
      obtain ⟨q, h0, h1, h2⟩ := hsrc i b' hb' b hl
      have := hs.inj q j b h1 hj h2 hb
      subst this
      exact hne _ (hmm i b' hb') h0
  refine ⟨hs.hn, hs.hd, fun t => ?_, fun i b' hb' => ⟨?_, ?_⟩, fun i j b hi hj hli hlj => ?_, fun i b hi hl => ?_, hs.old, hs.os, hs.tape, hs.output, hs.size, hs.block, hs.pinN, fun i b hp hi => ?_⟩
  · show RepA _ _ _ _ ((look es t).getD .dead) _
    cases ht : look es t with
    | none => exact .dead _
    | some y =>
      have := hf.hes _ (look_mem ht)
      unfold leA at this
      split at this
      · rename_i e; simp only at e; subst e; exact .dead _
      · rename_i cs ds ha hb
        have hr := hs.env t
        have e1 : (t, y).2 = y := rfl
        have ha' : st.env t = .tup cs := ha
        rw [ha'] at hr
        have hb' : y = .tup ds := hb
        subst hb'
        obtain ⟨hl, hg⟩ := leCells_get this
        generalize a.tmps.getD t undef = v at hr
        cases hr with
        | tup _ vs hvs hrr => exact .tup _ _ (by omega) fun i hi => fit_rep1 hs hf hL hM hfz (hg i (by omega) hi) (hrr i (by omega))
      · exact fit_rep2 hs hf hL hM hfz this (hs.env t)
  · have : look ms i = some b' := hb'
    simp [mkSt, this]
  · have := hf.hms _ (hmm i b' hb')
    unfold leM at this
    cases hj : ρ i with
    | none =>
      rw [hj] at this
      obtain ⟨e, k, rfl, h0⟩ := this
      exact ⟨h0, fun q hq => by simp at hq, .inl ⟨rfl, by rw [hL, hj]⟩⟩
    | some j =>
      rw [hj] at this
      obtain ⟨b, hb, hle⟩ := this
      have hrep := (hs.mem j b hb).2
      have hLi : L' i = L j := by rw [hL, hj]
      cases b with
      | obj od =>
        cases b' with
        | row => exact hle.elim
        | box => exact hle.elim
        | obj od' =>
          have e : od = od' := hle
          subst e
          obtain ⟨g, o, hg1, hw, hr⟩ := hrep
          exact ⟨g, o, by rw [hLi]; exact hg1, hw, by rw [hLi]; exact hr.ext (Ext.refl _ _) (fun b _ => hM b) rfl (fun _ _ => rfl)⟩
      | box ty cs =>
        cases b' with
        | row => exact hle.elim
        | obj => exact hle.elim
        | box ty' ds =>
          obtain ⟨rfl, hle⟩ := hle
          obtain ⟨hl, hg⟩ := leCells_get hle
          obtain ⟨g, vs, hg1, hw, hsz, hr⟩ := hrep
          exact ⟨g, vs, by rw [hLi]; exact hg1, hw, by omega, fun q hq => ⟨le1_single (hg q (by omega) hq), fit_rep1 hs hf hL hM hfz (hg q (by omega) hq) (hr q (by omega)).2⟩⟩
      | row e k xs =>
        cases b' with
        | box => exact hle.elim
        | obj => exact hle.elim
        | row e' k' ys =>
          obtain ⟨rfl, rfl, hl, hk, hle⟩ := hle
          obtain ⟨h0, hkk, hq⟩ := hrep
          refine ⟨h0, fun q hq => by rw [← hk q (by omega) hq]; exact hkk q (by omega), ?_⟩
          rcases hq with ⟨hxs, hn⟩ | ⟨g, cur, hg1, hw, hle1, hcm, hsz, hc⟩
          · subst hxs
            exact .inl ⟨List.eq_nil_of_length_eq_zero (by simpa using hl.symm), by rw [hLi]; exact hn⟩
          · refine .inr ⟨g, cur, by rw [hLi]; exact hg1, hw, by rw [hLi]; omega, by rw [hLi]; exact hcm, by rw [hLi]; exact hsz, fun p hp q hq => ?_⟩
            have hq' : q < (xs[p]'(by omega)).length := by rw [hk p (by omega) hp]; exact hq
            obtain ⟨c, hc1, hc2⟩ := hc p (by omega) q hq'
            exact ⟨c, hc1, (hle p (by omega) hp q hq' hq).rep (hc2.ext (Ext.refl _ _) (fun b _ => hM b))⟩
  · obtain ⟨bi, hbi⟩ := Option.isSome_iff_exists.1 hi
    obtain ⟨bj, hbj⟩ := Option.isSome_iff_exists.1 hj
    obtain ⟨p, hp0, hp1, hp2⟩ := hsrc i bi hbi b hli
    obtain ⟨q, hq0, hq1, hq2⟩ := hsrc j bj hbj b hlj
    have := hs.inj p q b hp1 hq1 hp2 hq2
    subst this
    exact hf.inj _ (hmm i bi hbi) _ (hmm j bj hbj) p hp0 hq0
  · obtain ⟨bi, hbi⟩ := Option.isSome_iff_exists.1 hi
    obtain ⟨p, _, hp1, hp2⟩ := hsrc i bi hbi b hl
    exact hs.out p b hp1 hp2
  · obtain ⟨bi, hbi⟩ := Option.isSome_iff_exists.1 hi
    have hi' := hρ i (hs.pinN i b hp).2
    have := hf.hms _ (hmm i bi hbi)
    unfold leM at this
    rw [hi'] at this
    obtain ⟨c, hc, _⟩ := this
    rw [hL, hi']
    exact hs.pin i b hp (by rw [hc]; rfl)
end fit
abbrev FitOk (st : St) (es : List (Nat × A)) (ms : List (Nat × Blk)) : Prop := FitR (srcId st) st es ms
theorem srcId_small (st : St) (i : Nat) (h : i < 1000) : srcId st i = some i := if_pos h
def leF1 : A → A → Prop
  | .t x, .t y => LeT x y
  | _, _ => False
def leFs : List A → List A → Prop
  | [], [] => True
  | x :: l, y :: r => leF1 x y ∧ leFs l r
  | _, _ => False
def leF2 : A → A → Prop
  | .agg cs, .agg ds => leFs cs ds
  | x, y => leF1 x y
def leF2s : List A → List A → Prop
  | [], [] => True
  | x :: l, y :: r => leF2 x y ∧ leF2s l r
  | _, _ => False
def leF : A → A → Prop
  | .tup cs, .tup ds => leF2s cs ds
  | x, y => leF2 x y
def arg3 (st : St) : A → A
  | .tup cs => .tup (cs.map (arg2 st))
  | a => arg2 st a
theorem leF1_rep {M : Nat → Prop} {x y : A} {v : Value} (h : leF1 x y) (hr : RepA st L w M x v) : RepF w M y v := by
  unfold leF1 at h
  split at h
  · exact .t _ _ (h.rep (rep_t hr))
  · exact h.elim
theorem leFs_get : ∀ {cs ds : List A}, leFs cs ds → cs.length = ds.length ∧ ∀ i (hi : i < cs.length) (hi' : i < ds.length), leF1 (cs[i]) (ds[i])
  | [], [], _ => ⟨rfl, fun i hi => by simp at hi⟩
  | x :: l, y :: r, h => by
    obtain ⟨h1, h2⟩ := h
    obtain ⟨h3, h4⟩ := leFs_get h2
    refine ⟨by simp [h3], fun i hi hi' => ?_⟩
    cases i with
    | zero => exact h1
    | succ i => exact h4 i (by simpa using hi) (by simpa using hi')
  | [], y :: r, h => h.elim
  | x :: l, [], h => h.elim
theorem leF2s_get : ∀ {cs ds : List A}, leF2s cs ds → cs.length = ds.length ∧ ∀ i (hi : i < cs.length) (hi' : i < ds.length), leF2 (cs[i]) (ds[i])
  | [], [], _ => ⟨rfl, fun i hi => by simp at hi⟩
  | x :: l, y :: r, h => by
    obtain ⟨h1, h2⟩ := h
    obtain ⟨h3, h4⟩ := leF2s_get h2
    refine ⟨by simp [h3], fun i hi hi' => ?_⟩
    cases i with
    | zero => exact h1
    | succ i => exact h4 i (by simpa using hi) (by simpa using hi')
  | [], y :: r, h => h.elim
  | x :: l, [], h => h.elim
theorem leF2_rep {M : Nat → Prop} {x y : A} {v : Value} (h : leF2 x y) (hr : RepA st L w M x v) : RepF w M y v := by
  unfold leF2 at h
  split at h
  · obtain ⟨hl, hg⟩ := leFs_get h
    cases hr with
    | agg _ vs hsz h1 hr =>
      refine .agg _ vs (by omega) (fun i hi => ?_) (fun i hi => leF1_rep (hg i (by omega) hi) (hr i (by omega)))
      have := hg i (by omega) hi
      unfold leF1 at this
      split at this
      · simp_all [A.single]
      · exact this.elim
  · exact leF1_rep h hr
theorem leF_rep {M : Nat → Prop} {x y : A} {v : Value} (h : leF x y) (hr : RepA st L w M x v) : RepF w M y v := by
  unfold leF at h
  split at h
  · obtain ⟨hl, hg⟩ := leF2s_get h
    cases hr with
    | tup _ vs hsz hr => exact .tup _ vs (by omega) (fun i hi => leF2_rep (hg i (by omega) hi) (hr i (by omega)))
  · exact leF2_rep h hr
def res1 (P : Program) (st : St) : ResultVar → Option A
  | .tmp t => some (st.env t)
  | .cell p ty => match tinfo P ty with | some ti => peek st (st.env p) ti | none => none
def resL (P : Program) (st : St) : List ResultVar → Option (List A)
  | [] => some []
  | r :: l => match res1 P st r, resL P st l with | some x, some l => some (x :: l) | _, _ => none
def resA (P : Program) (st : St) (rs : List ResultVar) : Option A :=
  match resL P st rs with
  | some [x] => some x
  | some l => some (.tup l)
  | none => none
def retQ (P : Program) (fn : Func) (r : A) : Exit → St → Prop
  | .ret, st | .normal, st => ∃ x, resA P st fn.results.toList = some x ∧ leF (arg3 st x) r
  | _, _ => False
end Go.Proofs.Ytblikpgdepjhdaa
namespace Go.Proofs.Ytblikpgdepjhdaa
open Go.RowKit
set_option linter.unusedVariables false
variable {C : Ctx} {st st' : St} {L L' : Nat → Loc} {a : Act} {w : World} {P : Program}
def resF (tmps : Array Value) : ResultVar → Sem Value
  | .tmp t => pure (tmps.getD t undef)
  | .cell a t => do loadVar t (← asAddr (tmps.getD a undef))
theorem res1_run (hs : SimL C st L a w) {r : ResultVar} {x : A} (h : res1 P st r = some x) : ∃ v, (resF a.tmps r).run P w = .ok v w ∧ RepA st L w (Mut C st L) x v := by
  cases r with
  | tmp t => cases h; exact ⟨_, rfl, hs.env t⟩
  | cell p ty =>
    unfold res1 at h
    dsimp only at h
    split at h
    · rename_i ti ht
      obtain ⟨u, hu1, hu2⟩ := peek_load hs ht (hs.env p) h
      refine ⟨u, ?_, hu2⟩
      generalize hv : a.tmps.getD p undef = v at hu1
      unfold resF
      simp only [hv]
      cases v <;> simp only [Instr.loadAt, Instr.sureAddr] at hu1 <;> try (simp at hu1; done)
      rename_i ad
      cases ad with
      | none => simp at hu1
      | some ad => simpa [asAddr] using hu1
    · cases h
theorem resL_run (hs : SimL C st L a w) : ∀ (rs : List ResultVar) (l : List A), resL P st rs = some l → ∃ vs : List Value, (rs.mapM (resF a.tmps)).run P w = .ok vs w ∧ vs.length = l.length ∧ ∀ i (hi : i < l.length) (hi' : i < vs.length), RepA st L w (Mut C st L) (l[i]) (vs[i])
  | [], l, h => by
    simp only [resL, Option.some.injEq] at h
    subst h
    exact ⟨[], by simp, rfl, fun i hi => by simp at hi⟩
  | r :: rs, l, h => by
    simp only [resL] at h
    split at h
    · rename_i x l' hx hl'
      cases h
      obtain ⟨v, hv, hr⟩ := res1_run (P := P) hs hx
      obtain ⟨vs, hvs, hlen, hget⟩ := resL_run hs rs l' hl'
      refine ⟨v :: vs, by simp [List.mapM_cons, hv, hvs], by simp [hlen], fun i hi hi' => ?_⟩
      cases i with
      | zero => exact hr
      | succ i => exact hget i (by simpa using hi) (by simpa using hi')
    · cases h
theorem results_eq (fn : Func) (tmps : Array Value) : results fn tmps = (do let vs ← fn.results.mapM (resF tmps); pure (if h : vs.size = 1 then vs[0] else .tuple vs)) := by
  unfold results
  congr 1
theorem res_run (hs : SimL C st L a w) {fn : Func} {x : A} (h : resA P st fn.results.toList = some x) : ∃ v, (results fn a.tmps).run P w = .ok v w ∧ RepA st L w (Mut C st L) x v := by
  unfold resA at h
  have main : ∀ l, resL P st fn.results.toList = some l → ∃ vs : List Value, (results fn a.tmps).run P w = .ok (if h : vs.toArray.size = 1 then vs.toArray[0] else .tuple vs.toArray) w ∧ vs.length = l.length ∧ ∀ i (hi : i < l.length) (hi' : i < vs.length), RepA st L w (Mut C st L) (l[i]) (vs[i]) := fun l hl => by
    obtain ⟨vs, h1, h2, h3⟩ := resL_run (P := P) hs _ _ hl
    exact ⟨vs, by rw [results_eq]; simp [Array.mapM_eq_mapM_toList, h1], h2, h3⟩
  split at h
  · rename_i y hl
    cases h
    obtain ⟨vs, h1, h2, h3⟩ := main _ hl
    have hv : vs.length = 1 := by simpa using h2
    obtain ⟨v, rfl⟩ := List.length_eq_one_iff.1 hv
    exact ⟨v, by simpa using h1, h3 0 (by simp) (by simp)⟩
  · rename_i l hne hl
    cases h
    obtain ⟨vs, h1, h2, h3⟩ := main _ hl
    have hne' : vs.toArray.size ≠ 1 := by
      intro e
      have : l.length = 1 := by simp at e; omega
      obtain ⟨y, rfl⟩ := List.length_eq_one_iff.1 this
      exact hne y rfl
    rw [dif_neg hne'] at h1
    exact ⟨_, h1, .tup _ _ (by simpa using h2) fun i hi => by simpa using h3 i hi (by omega)⟩
  · cases h
theorem arg3_rep (hs : SimL C st L a w) {M' : Nat → Prop} (hM : ∀ b, M' b → Mut C st L b) (hx : ∀ id e k xs, st.mem id = some (.row e k xs) → ∀ b, (L id).has b → ¬ M' b) {x : A} {v : Value} (h : RepA st L w (Mut C st L) x v) : RepA st L w M' (arg3 st x) v := by
  cases x with
  | tup cs =>
    cases h with
    | tup _ vs hsz hr => exact .tup _ vs (by simpa using hsz) fun i hi => by simp only [List.getElem_map]; exact arg_rep hs hM (fun id _ => hx id) (hr i (by simpa using hi))
  | _ => exact (fun q => arg_rep hs hM q h) (fun id _ => hx id)
def entry (n : Nat) (args : List A) : St := ⟨n, fun t => (args[t]?).getD .dead, fun _ => none, fun _ => false⟩
theorem fn_pure {f : FuncId} {fn : Func} {c : Code} {args : List A} {r : A} (hf : P.funcs[f]? = some fn) (hb : fn.body = some c) (hpl : plainFn P f = true) (hn : args.length ≤ fn.ntmps) (h : W P c (entry fn.ntmps args) (retQ P fn r)) : FnP P f args r := by
  refine ⟨hpl, fun w X vals hX hsz hargs => ?_⟩
  refine calls_of_wp hf hb ?_
  let C : Ctx := ⟨P, X, fun _ => False, w, fun _ => none⟩
  have hlen : (vals ++ Array.replicate (fn.ntmps - vals.size) undef).size = fn.ntmps := by simp; omega
  have hs : SimL C (entry fn.ntmps args) (fun _ => nol) { tmps := vals ++ Array.replicate (fn.ntmps - vals.size) undef, defers := [] } w := by
    have hM : ∀ b, Mut C (entry fn.ntmps args) (fun _ => nol) b → X b := by
      rintro b (hx | ⟨i, hi, _⟩)
      · exact hx
      · cases hi
    refine ⟨hlen, rfl, fun t => ?_, fun id blk h => (by cases h), fun i j b hi => (by cases hi), fun i b hi => (by cases hi), hX, rfl, rfl, rfl, Nat.le_refl _, fun _ _ _ => rfl, fun _ _ h => (by cases h), fun _ _ h => (by cases h)⟩
    show RepA _ _ _ _ ((args[t]?).getD .dead) _
    cases ht : args[t]? with
    | none => exact .dead _
    | some x =>
      obtain ⟨hlt, rfl⟩ := List.getElem?_eq_some_iff.1 ht
      have e : (vals ++ Array.replicate (fn.ntmps - vals.size) undef).getD t undef = vals.getD t undef := by
        simp only [Array.getD_eq_getD_getElem?]
        rw [Array.getElem?_append_left (by omega)]
      rw [e]
      exact RepA.ext (hargs t hlt) (Ext.refl _ _) (fun b _ h => hM b h) (fun id hi => by simp at hi) (fun id hi => by simp at hi)
  refine wp_mono (h C _ w rfl ⟨_, hs⟩) ?_
  rintro e a' w' ⟨st', hn', hq, ⟨L', hs'⟩⟩
  have fin : (∃ x, resA P st' fn.results.toList = some x ∧ leF (arg3 st' x) r) → a'.defers = [] ∧ ∃ v, (results fn a'.tmps).run P w' = .ok v w' ∧ ∃ v', Ending.returned v = .returned v' ∧ Below w.heap.size w w' ∧ RepF w' X r v' := by
    rintro ⟨x, hx, hle⟩
    obtain ⟨v, hv1, hv2⟩ := res_run hs' hx
    refine ⟨hs'.hd, v, hv1, v, rfl, ⟨hs'.os, hs'.tape, hs'.output, hs'.size, fun k hk => hs'.block k hk (fun h => h)⟩, leF_rep hle (arg3_rep hs' (fun b h => .inl h) (fun id e k xs hm b hb hx => ?_) hv2)⟩
    exact (hs'.out id b (by rw [hm]; rfl) hb).1 hx
  cases e with
  | ret => exact fin hq
  | normal => exact fin hq
  | _ => exact hq.elim
end Go.Proofs.Ytblikpgdepjhdaa
namespace Go.Proofs.Ytblikpgdepjhdaa
open Go.RowKit
set_option linter.unusedVariables false
variable {C : Ctx} {st st' st2 : St} {L L' : Nat → Loc} {a : Act} {w : World} {P : Program}
def entryIO (n : Nat) (args : List A) (m : List (Nat × Blk)) : St := ⟨n, fun t => (args[t]?).getD .dead, look m, fun i => (look m i).isSome⟩
def retIO (P : Program) (fn : Func) (r : A) (m' : List (Nat × Blk)) : Exit → St → Prop
  | .ret, st | .normal, st => ∃ ρ : Nat → Option Nat, (∀ i, i < 1000 → ρ i = some i) ∧ ∃ x, resA P st fn.results.toList = some x ∧ le3 ρ st m' x r ∧ FitR ρ st [] m'
  | _, _ => False
theorem fn_io {f : FuncId} {fn : Func} {c : Code} {args : List A} {m m' : List (Nat × Blk)} {r : A} (hf : P.funcs[f]? = some fn) (hb : fn.body = some c) (hpl : plainFn P f = true) (hn : args.length ≤ fn.ntmps) (h9 : fn.ntmps ≤ 900) (h : W P c (entryIO fn.ntmps args m) (retIO P fn r m')) : FnIO P f args m r m' := by
  refine ⟨hpl, fun C L vals hP hpin hs0 hsz hargs => ?_⟩
  refine calls_of_wp hf hb ?_
  have hlen : (vals ++ Array.replicate (fn.ntmps - vals.size) undef).size = fn.ntmps := by simp; omega
  have hmu : Mut C (entryIO fn.ntmps args m) L = Mut C (mst m) L := rfl
  have hs : SimL C (entryIO fn.ntmps args m) L { tmps := vals ++ Array.replicate (fn.ntmps - vals.size) undef, defers := [] } C.w0 := by
    refine ⟨hlen, rfl, fun t => ?_, fun id blk hb => ⟨(hs0.mem id blk hb).1, ?_⟩, hs0.inj, hs0.out, hs0.old, hs0.os, hs0.tape, hs0.output, hs0.size, hs0.block, fun id b hp => ⟨Nat.le_trans h9 (hpin id b hp), (hs0.pinN id b hp).2⟩, hs0.pin⟩
    · show RepA _ _ _ _ ((args[t]?).getD .dead) _
      cases ht : args[t]? with
      | none => exact .dead _
      | some x =>
        obtain ⟨hlt, rfl⟩ := List.getElem?_eq_some_iff.1 ht
        have e : (vals ++ Array.replicate (fn.ntmps - vals.size) undef).getD t undef = vals.getD t undef := by
          simp only [Array.getD_eq_getD_getElem?]
          rw [Array.getElem?_append_left (by omega)]
        rw [e]
        exact (hargs t hlt).same rfl rfl
    · exact (hs0.mem id blk hb).2.ext (Ext.refl _ _) (fun _ _ h => h) (fun i h => h) (shape_like _ L) rfl (fun _ _ => rfl)
  refine wp_mono (h C _ _ hP ⟨_, hs⟩) ?_
  rintro e a' w' ⟨st', hn', hq, ⟨L', hs'⟩⟩
  have fin : (∃ ρ : Nat → Option Nat, (∀ i, i < 1000 → ρ i = some i) ∧ ∃ x, resA P st' fn.results.toList = some x ∧ le3 ρ st' m' x r ∧ FitR ρ st' [] m') → a'.defers = [] ∧ ∃ v, (results fn a'.tmps).run P w' = .ok v w' ∧ ∃ v' L', Ending.returned v = .returned v' ∧ SimL C (mst m') L' noAct w' ∧ RepA (mst m') L' w' (Mut C (mst m') L') r v' := by
    rintro ⟨ρ, hρ, x, hx, hle, hfit⟩
    obtain ⟨v, hv1, hv2⟩ := res_run hs' hx
    obtain ⟨h1, h2⟩ := fit_mst hs' hρ hfit
    exact ⟨hs'.hd, v, hv1, v, _, rfl, h1, h2 hle hv2⟩
  cases e with
  | ret => exact fin hq
  | normal => exact fin hq
  | _ => exact hq.elim
end Go.Proofs.Ytblikpgdepjhdaa
namespace Go.Proofs.Ytblikpgdepjhdaa
open Go.RowKit
set_option linter.unusedVariables false
variable {C : Ctx} {st st' : St} {L L' : Nat → Loc} {a : Act} {w : World} {P : Program}
def AtIx (xs : List (List T)) (n : Int) (K : Nat → List T → Prop) : Prop := ∃ (m : Nat) (el : List T), n = (m : Int) ∧ xs[m]? = some el ∧ K m el
def AtStr (s : ByteArray) (n : Int) (K : UInt8 → Prop) : Prop := ∃ (m : Nat) (b : UInt8), n = (m : Int) ∧ s[m]? = some b ∧ K b
def OtherM (P : Program) (o : Oper) (xs : List A) (st : St) (K : St → Prop) : Prop := xs = argsOf o st → Other P o st K
def stepM (P : Program) (o : Oper) (st : St) (K : St → Prop) : Prop :=
  match o.op with
  | .move x | .assign x => K (st.put o.dst (st.ev x))
  | .pick c a b => match st.ev c with | .t (.v (.bool t)) => K (st.put o.dst (pickA t (st.ev a) (st.ev b))) | _ => False
  | .alloc ty => match o.dst, tinfo P ty with | some d, some ti => st.used d = false ∧ K ((st.new d (.box ty (ti.zero.map .v))).put (some d) (.ptr d 0)) | _, _ => False
  | .box ty x => match o.dst, cellsOf (st.ev x) with | some d, some cs => st.used d = false ∧ K ((st.new d (.box ty cs)).put (some d) (.ptr d 0)) | _, _ => False
  | .build t parts => match tinfo P t with
    | some ti => match tkind P t, fillA ti.fs (ti.zero.map .v) (parts.toList.map fun (i, x) => (i, st.ev x)) with | .strct, some cs => K (st.put o.dst (.agg cs)) | _, _ => False
    | none => False
  | .buildSlice t len parts => match o.dst, tinfo P t with
    | some d, some ti => match ti.elem with
      | some e => match tinfo P e with
        | some te => st.used d = false ∧ 0 < te.size ∧ parts.size = len ∧ len * te.size ≤ 16777216 ∧
            match partsT te.size 0 (parts.toList.map fun (i, x) => (i, (st.frzs (parts.toList.flatMap fun (_, x) => refs2 (st.ev x))).ev x)) with
            | some xs => K (((st.frzs (parts.toList.flatMap fun (_, x) => refs2 (st.ev x))).new d (.row e te.size xs)).put (some d) (.ref d))
            | none => False
        | none => False
      | none => False
    | _, _ => False
  | .load t a => match tinfo P t with
    | some ti => match peek st (st.ev a) ti with | some x => K (st.put o.dst x) | none => False
    | none => False
  | .store t a x => match tinfo P t, cellsOf (st.ev x) with
    | some ti, some cs => cs.length = ti.size ∧
      match st.ev a with
      | .ptr id off => (match st.mem id with
        | some (.box ty cells) => off + cs.length ≤ cells.length ∧ K ((st.setm id (.box ty (cells.take off ++ cs ++ cells.drop (off + cs.length)))).put o.dst .dead)
        | _ => False)
      | .rptr id i j => (match st.mem id, cellsT cs with
        | some (.row e k xs), some l => ∃ el, xs[i]? = some el ∧ j + l.length ≤ el.length ∧ K ((st.setm id (.row e k (xs.set i (el.take j ++ l ++ el.drop (j + l.length))))).put o.dst .dead)
        | _, _ => False)
      | _ => False
    | _, _ => False
  | .nilCheck x => isPtr st (st.ev x) = true ∧ K (st.put o.dst (st.ev x))
  | .binOp op ty x y _ => match binA P st op ty (st.ev x) (st.ev y) with | some z => z.oneCell' = true ∧ K (st.put o.dst (.v z)) | none => OtherM P o [arg2 st (st.ev x), arg2 st (st.ev y)] st K
  | .unOp op _ x => match st.ev x with
    | .t (.v y) => (match unF op y with | some z => z.oneCell' = true ∧ K (st.put o.dst (.v z)) | none => False)
    | _ => False
  | .convert src dst x => match convA P src dst (st.ev x) with | some z => (tinfo P src).isSome = true ∧ K (st.put o.dst z) | none => OtherM P o [arg2 st (st.ev x)] st K
  | .fieldAddr s x f => match tinfo P s, tkind P s with
    | some ti, .strct => isPtr st (st.ev x) = true ∧ (match fieldA ti (st.ev x) f with | some z => K (st.put o.dst z) | none => False)
    | _, _ => False
  | .field s x f => match tinfo P s, tkind P s with
    | some ti, .strct => (match subA ti (st.ev x) f with | some z => K (st.put o.dst z) | none => False)
    | _, _ => False
  | .indexAddr t x i => match tinfo P t with
    | some ti => match ti.elem with
      | some e => match tinfo P e, asList st (st.ev x), st.ev i with
        | some te, some (k', xs), .t (.v (.int k n)) => k' = te.size ∧ AtIx xs n fun m el => K (st.put o.dst (match st.ev x with | .ref id => .rptr id m 0 | _ => .fel el))
        | _, _, _ => False
      | none => False
    | none => False
  | .index t x i => match tkind P t, st.ev x, st.ev i with
    | .str, .t (.v (.string s)), .t (.v (.int k n)) => AtStr s n fun b => K (st.put o.dst (.v (.int .u8 b.toNat)))
    | _, _, _ => False
  | .extract x i => match st.ev x with
    | .tup cs => (match cs[i]? with | some y => K (st.put o.dst y) | none => False)
    | _ => False
  | .call c =>
    match c.callee, c.args.toList, c.argTypes.toList with
    | .builtin .len, [x], ty :: _ => (match lenA P st ty (st.ev x) with | some z => K (st.put o.dst (.v z)) | none => False)
    | .builtin .append, [x, y], [t, t'] => (match o.dst, tinfo P t with
      | some d, some ti => (match ti.elem with
        | some e => (match tinfo P e, asList st (st.ev y) with
          | some te, some (k'', ys) => t = t' ∧ 0 < te.size ∧ st.used d = false ∧ (ys = [] ∨ k'' = te.size) ∧
            (match st.ev x with
            | .t (.v (.slice none 0 0)) => ys.length * te.bytes ≤ 140737488355328 ∧ ys.length ≤ maxLen ∧ K ((st.new d (.row e te.size ys)).put (some d) (.ref d))
            | .ref id => (match st.mem id with
              | some (.row e' k' xs) => e' = e ∧ k' = te.size ∧ (xs.length + ys.length) * te.bytes ≤ 140737488355328 ∧ xs.length + ys.length ≤ maxLen ∧ K (((st.del id).new d (.row e te.size (xs ++ ys))).put (some d) (.ref d))
              | _ => False)
            | _ => False)
          | _, _ => False)
        | none => False)
      | _, _ => False)
    | .value (.func f), args, _ => CallAny P f o.dst (args.map fun x => arg2 st (st.ev x)) (args.map st.ev) st K
    | .builtin _, args, _ => OtherM P o (args.map fun x => arg2 st (st.ev x)) st K
    | _, _, _ => False
  | op => OtherM P o ((opL op).map fun x => arg2 st (st.ev x)) st K
theorem stepM_W {o : Oper} {K : St → Prop} (h : stepM P o st K) : stepW P o st K := by
  unfold stepM at h
  split at h
  · rename_i x ho; refine .inl ?_; unfold stepW0; simp only [ho]; exact h
  · rename_i x ho; refine .inl ?_; unfold stepW0; simp only [ho]; exact h
  · rename_i c x y ho
    refine .inl ?_
    unfold stepW0
    simp only [ho]
    split at h
    · rename_i t ht; exact ⟨t, ht, h⟩
    · exact h.elim
  · rename_i ty ho
    refine .inl ?_
    unfold stepW0
    simp only [ho]
    split at h
    · rename_i d ti hd ht; exact ⟨d, ti, hd, ht, h.1, by rw [hd]; exact h.2⟩
    · exact h.elim
  · rename_i ty x ho
    refine .inl ?_
    unfold stepW0
    simp only [ho]
    split at h
    · rename_i d ti hd ht; exact ⟨d, ti, hd, ht, h.1, by rw [hd]; exact h.2⟩
    · exact h.elim
  · rename_i t parts ho
    refine .inl ?_
    unfold stepW0
    simp only [ho]
    split at h
    · rename_i ti ht
      split at h
      · rename_i cs hk hc; exact ⟨ti, cs, ht, hk, hc, h⟩
      · exact h.elim
    · exact h.elim
  · rename_i t len parts ho
    refine .inl ?_
    unfold stepW0
    simp only [ho]
    split at h
    · rename_i d ti hd ht
      split at h
      · rename_i e he
        split at h
        · rename_i te hte
          obtain ⟨h1, h2, h3, h4, h⟩ := h
          split at h
          · rename_i xs hx; exact ⟨d, ti, e, te, xs, hd, ht, he, hte, h1, h2, h3, h4, hx, by rw [hd]; exact h⟩
          · exact h.elim
        · exact h.elim
      · exact h.elim
    · exact h.elim
  · rename_i t x ho
    refine .inl ?_
    unfold stepW0
    simp only [ho]
    split at h
    · rename_i ti ht
      split at h
      · rename_i y hy; exact ⟨ti, y, ht, hy, h⟩
      · exact h.elim
    · exact h.elim
  · rename_i t p x ho
    refine .inl ?_
    unfold stepW0
    simp only [ho]
    split at h
    · rename_i ti cs ht hc
      obtain ⟨h1, h⟩ := h
      refine ⟨ti, cs, ht, hc, h1, ?_⟩
      split at h
      · rename_i id off hp
        split at h
        · rename_i ty cells hm; exact .inl ⟨id, off, ty, cells, hp, hm, h.1, h.2⟩
        · exact h.elim
      · rename_i id i j hp
        split at h
        · rename_i e k xs l hm hl
          obtain ⟨el, h2, h3, h4⟩ := h
          exact .inr ⟨id, i, j, e, k, xs, el, l, hp, hm, h2, hl, h3, h4⟩
        · exact h.elim
      · exact h.elim
    · exact h.elim
  · rename_i x ho; refine .inl ?_; unfold stepW0; simp only [ho]; exact h
  · rename_i op ty x y ty2 ho
    split at h
    · rename_i z hz
      refine .inl ?_
      unfold stepW0
      simp only [ho]
      exact ⟨z, hz, h.1, h.2⟩
    · exact .inr (.inl (h (by simp [argsOf, ho, opL])))
  · rename_i op ty x ho
    refine .inl ?_
    unfold stepW0
    simp only [ho]
    split at h
    · rename_i y hy
      split at h
      · rename_i z hz; exact ⟨y, z, hy, hz, h.1, h.2⟩
      · exact h.elim
    · exact h.elim
  · rename_i src dst x ho
    split at h
    · rename_i z hz
      refine .inl ?_
      unfold stepW0
      simp only [ho]
      exact ⟨z, h.1, hz, h.2⟩
    · exact .inr (.inl (h (by simp [argsOf, ho, opL])))
  · rename_i s x f ho
    refine .inl ?_
    unfold stepW0
    simp only [ho]
    split at h
    · rename_i ti ht hk
      obtain ⟨h1, h⟩ := h
      split at h
      · rename_i z hz; exact ⟨ti, z, ht, hk, h1, hz, h⟩
      · exact h.elim
    · exact h.elim
  · rename_i s x f ho
    refine .inl ?_
    unfold stepW0
    simp only [ho]
    split at h
    · rename_i ti ht hk
      split at h
      · rename_i z hz; exact ⟨ti, z, ht, hk, hz, h⟩
      · exact h.elim
    · exact h.elim
  · rename_i t x i ho
    refine .inl ?_
    unfold stepW0
    simp only [ho]
    split at h
    · rename_i ti ht
      split at h
      · rename_i e he
        split at h
        · rename_i te k' xs k n hte hl hi
          obtain ⟨h1, m, el, rfl, h2, h3⟩ := h
          exact ⟨ti, e, te, k', xs, k, m, el, ht, he, hte, hl, hi, h2, h1, h3⟩
        · exact h.elim
      · exact h.elim
    · exact h.elim
  · rename_i t x i ho
    refine .inl ?_
    unfold stepW0
    simp only [ho]
    split at h
    · rename_i s k n hk hx hi
      obtain ⟨m, b, rfl, h1, h2⟩ := h
      exact ⟨s, k, m, b, hk, hx, hi, h1, h2⟩
    · exact h.elim
  · rename_i x i ho
    refine .inl ?_
    unfold stepW0
    simp only [ho]
    split at h
    · rename_i cs hx
      split at h
      · rename_i y hy; exact ⟨cs, y, hx, hy, h⟩
      · exact h.elim
    · exact h.elim
  · rename_i c ho
    obtain ⟨callee, args, ts⟩ := c
    dsimp only at h
    have inl : (stepW0 P { o with op := .call ⟨callee, args, ts⟩ } st K) → stepW P o st K := fun h => .inl (by
      have : { o with op := .call ⟨callee, args, ts⟩ } = o := by cases o; cases ho; rfl
      rw [this] at h; exact h)
    split at h
    · rename_i x ty tl ha ht
      refine inl ?_
      unfold stepW0
      simp only [ha, ht]
      split at h
      · rename_i z hz; exact ⟨z, hz, h⟩
      · exact h.elim
    · rename_i x y t t' ha ht
      refine inl ?_
      unfold stepW0
      simp only [ha, ht]
      split at h
      · rename_i d ti hd hti
        split at h
        · rename_i e he
          split at h
          · rename_i te k'' ys hte hl
            obtain ⟨h1, h2, h3, h4, h⟩ := h
            refine ⟨d, ti, e, te, k'', ys, h1, hd, hti, he, hte, h2, h3, hl, h4, ?_⟩
            split at h
            · rename_i hx; exact .inl ⟨hx, h.1, h.2.1, by rw [hd]; exact h.2.2⟩
            · rename_i id hx
              split at h
              · rename_i e' k' xs hm
                obtain ⟨rfl, h5, h6, h7, h8⟩ := h
                exact .inr ⟨id, k', xs, hx, hm, h5, h6, h7, by rw [hd]; exact h8⟩
              · exact h.elim
            · exact h.elim
          · exact h.elim
        · exact h.elim
      · exact h.elim
    · rename_i f
      refine inl ?_
      unfold stepW0
      exact h
    · exact .inr (.inl (h (by simp [argsOf, ho, opL])))
    · exact h.elim
  · rename_i op _ _ _ _ _ _ _ _ _ _ _ _ _ _ _ _ _ _ _
    exact .inr (.inl (h rfl))
def nthOp : List Oper → Nat → Option Oper
  | [], _ => none
  | o :: _, 0 => some o
  | _ :: l, n + 1 => nthOp l n
theorem nthOp_eq : ∀ (l : List Oper) (n : Nat), nthOp l n = l[n]?
  | [], n => by simp [nthOp]
  | o :: l, 0 => rfl
  | o :: l, n + 1 => by simp [nthOp, nthOp_eq l n]
def guardL (ops : List Oper) (st : St) (j : Nat) : A := match nthOp ops j with | some o => (match o.dst with | some d => st.env d | none => .dead) | none => .dead
end Go.Proofs.Ytblikpgdepjhdaa
namespace Go.Proofs.Ytblikpgdepjhdaa
open Go.RowKit
set_option linter.unusedVariables false
variable {C : Ctx} {st st' st2 : St} {L L' : Nat → Loc} {a : Act} {w : World} {P : Program}
def opTmps (o : Oper) : List Nat := o.op.operands.toList.filterMap fun x => match x with | .tmp t => some t | _ => none
def fpOf (o : Oper) (st : St) : List Nat := (opL o.op).flatMap fun x => ids3 (st.ev x)
def wrOf (o : Oper) (st : St) : List Nat :=
  match o.op with
  | .alloc _ | .box _ _ | .buildSlice _ _ _ => o.dst.toList
  | .store _ a _ => ids1 (st.ev a)
  | .makeSlice _ _ _ => o.dst.toList
  | .slice _ _ _ _ _ => (match ((opL o.op).flatMap fun x => own1 (st.ev x)) with | [] => [] | l => o.dst.toList ++ l)
  | .range _ _ | .makeMap _ _ => o.dst.toList
  | .next _ _ | .mapUpdate _ _ _ _ | .lookup _ _ _ _ => (opL o.op).flatMap fun x => own1 (st.ev x)
  | .convert _ _ x => if isStr (st.ev x) then o.dst.toList else []
  | .call c => (match c.callee, c.args.toList with | .builtin .append, x :: _ => o.dst.toList ++ ids1 (st.ev x) | .builtin .copy, _ => (opL o.op).flatMap fun x => own1 (st.ev x) | .builtin .clear, _ => (opL o.op).flatMap fun x => own1 (st.ev x) | .builtin .delete, _ => (opL o.op).flatMap fun x => own1 (st.ev x) | .value _, args => (if hasPtr (args.map st.ev) then reach st (args.map st.ev) else []) ++ freshIds o.dst | _, _ => [])
  | _ => []
def over (st2 st' : St) (d : Option Nat) (wr : List Nat) : St :=
  { n := st2.n, env := fun t => if d = some t then st'.env t else st2.env t, mem := fun i => if i ∈ wr then st'.mem i else st2.mem i, used := fun i => if i ∈ wr then st'.used i else st2.used i }
structure Agree (o : Oper) (st st2 : St) : Prop where
  n : st2.n = st.n
  env : ∀ x ∈ o.op.operands.toList, st2.ev x = st.ev x
  mem : ∀ i, i ∈ fpOf o st ∨ i ∈ wrOf o st → st2.mem i = st.mem i
  used : ∀ i, i ∈ wrOf o st → st2.used i = st.used i
structure Frame1 (o : Oper) (st st' : St) (wr : List Nat) : Prop where
  n : st'.n = st.n
  env : ∀ t, o.dst ≠ some t → st'.env t = st.env t
  mem : ∀ i, i ∉ wr → st'.mem i = st.mem i
  used : ∀ i, i ∉ wr → st'.used i = st.used i
def keepsRows (o : Oper) (st : St) : Bool :=
  match o.op with
  | .buildSlice _ _ parts => (parts.toList.flatMap fun (_, x) => refs2 (st.ev x)).isEmpty
  | .call c => (match c.callee with | .value _ => (c.args.toList.flatMap fun x => refs2 (st.ev x)).isEmpty | _ => true)
  | _ => true
theorem over_put (st2 st : St) (d : Option Nat) (x : A) : over st2 (st.put d x) d [] = st2.put d x := by
  cases d with
  | none => simp [over, St.put]
  | some d =>
    simp only [over, St.put, List.not_mem_nil, if_false, Option.some.injEq]
    congr 1
    funext t
    by_cases h : d = t
    · subst h; simp [upd]
    · have h' : t ≠ d := fun e => h e.symm
      simp [upd, h, h']
theorem frame_put (o : Oper) (st : St) (x : A) : Frame1 o st (st.put o.dst x) [] := by
  refine ⟨by simp, fun t ht => ?_, fun i _ => by simp, fun i _ => by simp⟩
  cases hd : o.dst with
  | none => rfl
  | some d =>
    rw [hd] at ht
    have : t ≠ d := fun e => ht (by rw [e])
    simp [St.put, upd, this]
def Local (P : Program) (o : Oper) (st : St) (K : St → Prop) : Prop :=
  ∃ st', K st' ∧ Frame1 o st st' (wrOf o st) ∧ ∀ st2, Agree o st st2 → ∀ K2 : St → Prop, K2 (over st2 st' o.dst (wrOf o st)) → stepW P o st2 K2
theorem local_put {o : Oper} {K : St → Prop} (x : A) (hw : wrOf o st = []) (hK : K (st.put o.dst x)) (h : ∀ st2, Agree o st st2 → ∀ K2 : St → Prop, K2 (st2.put o.dst x) → stepW P o st2 K2) : Local P o st K := by
  refine ⟨_, hK, by rw [hw]; exact frame_put o st x, fun st2 ha K2 hK2 => h st2 ha K2 ?_⟩
  rw [hw, over_put] at hK2
  exact hK2
theorem St.ext' {a b : St} (hn : a.n = b.n) (he : a.env = b.env) (hm : a.mem = b.mem) (hu : a.used = b.used) : a = b := by
  cases a; cases b; simp_all
theorem local_sup {o : Oper} {K : St → Prop} (x : A) (hK : K (st.put o.dst x)) (h : ∀ st2, Agree o st st2 → ∀ K2 : St → Prop, K2 (st2.put o.dst x) → stepW P o st2 K2) : Local P o st K := by
  refine ⟨_, hK, ?_, fun st2 ha K2 hK2 => h st2 ha K2 ?_⟩
  · have := frame_put o st x
    exact ⟨this.n, this.env, fun i _ => this.mem i (by simp), fun i _ => this.used i (by simp)⟩
  · have e1 : over st2 (st.put o.dst x) o.dst (wrOf o st) = st2.put o.dst x := by
      rw [← over_put st2 st]
      refine St.ext' rfl rfl ?_ ?_
      · funext i
        show (if i ∈ wrOf o st then (st.put o.dst x).mem i else st2.mem i) = st2.mem i
        split
        · rename_i hi; rw [put_mem, ha.mem i (.inr hi)]
        · rfl
      · funext i
        show (if i ∈ wrOf o st then (st.put o.dst x).used i else st2.used i) = st2.used i
        split
        · rename_i hi; rw [put_used, ha.used i hi]
        · rfl
    rw [e1] at hK2
    exact hK2
theorem over_new (st2 st : St) (d : Nat) (b : Blk) (x : A) : over st2 ((st.new d b).put (some d) x) (some d) [d] = (st2.new d b).put (some d) x := by
  simp only [over, St.put, St.new, List.mem_singleton, Option.some.injEq]
  congr 1
  · funext t
    by_cases h : d = t
    · subst h; simp [upd]
    · have h' : t ≠ d := fun e => h e.symm
      simp [upd, h, h']
  · funext i
    by_cases h : i = d <;> simp [upd, h]
  · funext i
    by_cases h : i = d <;> simp [upd, h]
theorem frame_new (o : Oper) (st : St) (d : Nat) (hd : o.dst = some d) (b : Blk) (x : A) : Frame1 o st ((st.new d b).put o.dst x) [d] := by
  rw [hd]
  refine ⟨rfl, fun t ht => ?_, fun i hi => ?_, fun i hi => ?_⟩
  · have : t ≠ d := fun e => ht (by rw [hd, e])
    simp [St.put, St.new, upd, this]
  · have : i ≠ d := by simpa using hi
    simp [St.put, St.new, upd, this]
  · have : i ≠ d := by simpa using hi
    simp [St.put, St.new, upd, this]
theorem local_new {o : Oper} {K : St → Prop} (d : Nat) (hd : o.dst = some d) (b : Blk) (x : A) (hw : wrOf o st = [d]) (hK : K ((st.new d b).put o.dst x)) (h : ∀ st2, Agree o st st2 → ∀ K2 : St → Prop, K2 ((st2.new d b).put o.dst x) → stepW P o st2 K2) : Local P o st K := by
  refine ⟨_, hK, by rw [hw]; exact frame_new o st d hd b x, fun st2 ha K2 hK2 => h st2 ha K2 ?_⟩
  rw [hw, hd, over_new] at hK2
  rw [hd]
  exact hK2
theorem over_set (st2 st : St) (d : Option Nat) (id : Nat) (b : Blk) (x : A) (hu : st2.used id = st.used id) : over st2 ((st.setm id b).put d x) d [id] = (st2.setm id b).put d x := by
  have e1 : (fun i => if i ∈ [id] then ((st.setm id b).put d x).mem i else st2.mem i) = upd st2.mem id (some b) := by
    funext i
    by_cases h : i = id <;> simp [upd, h, St.setm]
  have e2 : (fun i => if i ∈ [id] then ((st.setm id b).put d x).used i else st2.used i) = st2.used := by
    funext i
    by_cases h : i = id
    · subst h; simp [St.setm, hu]
    · simp [h]
  have e3 : (fun t => if d = some t then ((st.setm id b).put d x).env t else st2.env t) = ((st2.setm id b).put d x).env := by
    funext t
    cases d with
    | none => simp [St.put, St.setm]
    | some d =>
      by_cases h : d = t
      · subst h; simp [upd, St.put]
      · have h' : t ≠ d := fun e => h e.symm
        simp [upd, h, h', St.put, St.setm]
  unfold over
  rw [e1, e2, e3]
  cases d <;> rfl
theorem frame_set (o : Oper) (st : St) (id : Nat) (b : Blk) (x : A) : Frame1 o st ((st.setm id b).put o.dst x) [id] := by
  refine ⟨by simp [St.setm], fun t ht => ?_, fun i hi => ?_, fun i hi => by simp [St.setm]⟩
  · cases hd : o.dst with
    | none => rfl
    | some d =>
      rw [hd] at ht
      have : t ≠ d := fun e => ht (by rw [e])
      simp [St.put, upd, this, St.setm]
  · have : i ≠ id := by simpa using hi
    simp [St.setm, upd, this]
theorem local_set {o : Oper} {K : St → Prop} (id : Nat) (b : Blk) (x : A) (hw : wrOf o st = [id]) (hK : K ((st.setm id b).put o.dst x)) (h : ∀ st2, Agree o st st2 → ∀ K2 : St → Prop, K2 ((st2.setm id b).put o.dst x) → stepW P o st2 K2) : Local P o st K := by
  refine ⟨_, hK, by rw [hw]; exact frame_set o st id b x, fun st2 ha K2 hK2 => h st2 ha K2 ?_⟩
  rw [hw, over_set _ _ _ _ _ _ (ha.used id (by rw [hw]; simp))] at hK2
  exact hK2
theorem over_app (st2 st : St) (d id : Nat) (b : Blk) (x : A) (hne : id ≠ d) (hu : st2.used id = st.used id) : over st2 (((st.del id).new d b).put (some d) x) (some d) [d, id] = ((st2.del id).new d b).put (some d) x := by
  simp only [over, St.put, St.new, St.del, Option.some.injEq, List.mem_cons, List.not_mem_nil, or_false]
  congr 1
  · funext t
    by_cases h : d = t
    · subst h; simp [upd]
    · have h' : t ≠ d := fun e => h e.symm
      simp [upd, h, h']
  · funext i
    by_cases h : i = d
    · simp [upd, h]
    · by_cases h2 : i = id <;> simp [upd, h, h2]
  · funext i
    by_cases h : i = d
    · simp [upd, h]
    · by_cases h2 : i = id
      · subst h2; simp [upd, h, hu]
      · simp [upd, h, h2]
theorem frame_app (o : Oper) (st : St) (d id : Nat) (hd : o.dst = some d) (b : Blk) (x : A) : Frame1 o st (((st.del id).new d b).put o.dst x) [d, id] := by
  rw [hd]
  refine ⟨rfl, fun t ht => ?_, fun i hi => ?_, fun i hi => ?_⟩
  · have : t ≠ d := fun e => ht (by rw [hd, e])
    simp [St.put, St.new, St.del, upd, this]
  · simp only [List.mem_cons, List.not_mem_nil, or_false, not_or] at hi
    simp [St.put, St.new, St.del, upd, hi]
  · simp only [List.mem_cons, List.not_mem_nil, or_false, not_or] at hi
    simp [St.put, St.new, St.del, upd, hi]
theorem asList_agree {x : A} (h : ∀ i ∈ ids1 x, st2.mem i = st.mem i) : asList st2 x = asList st x := by
  unfold asList
  split <;> try rfl
  rename_i id
  rw [h id (by simp [ids1])]
theorem peek_agree {x : A} {ti : TI} (h : ∀ i ∈ ids1 x, st2.mem i = st.mem i) : peek st2 x ti = peek st x ti := by
  unfold peek
  split <;> try rfl
  · rename_i id off; rw [h id (by simp [ids1])]
  · rename_i id i j; rw [h id (by simp [ids1])]
theorem isPtr_agree {x : A} (h : ∀ i ∈ ids1 x, st2.mem i = st.mem i) : isPtr st2 x = isPtr st x := by
  unfold isPtr
  split <;> try rfl
  · rename_i id off; rw [h id (by simp [ids1])]
  · rename_i id i j; rw [h id (by simp [ids1])]
  · rename_i id; rw [h id (by simp [ids1])]
theorem arg1_agree {x : A} (h : ∀ i ∈ ids1 x, st2.mem i = st.mem i) : arg1 st2 x = arg1 st x := by
  unfold arg1
  split <;> try rfl
  rename_i id
  rw [h id (by simp [ids1])]
theorem arg2_agree {x : A} (h : ∀ i ∈ ids2 x, st2.mem i = st.mem i) : arg2 st2 x = arg2 st x := by
  unfold arg2
  split
  · rename_i cs
    congr 1
    exact List.map_congr_left fun y hy => arg1_agree fun i hi => h i (by simp only [ids2, List.mem_flatMap]; exact ⟨y, hy, hi⟩)
  · rename_i hne
    refine arg1_agree fun i hi => h i ?_
    cases x <;> first | exact hi | (simp [ids1] at hi)
theorem ids12 {x : A} {i : Nat} (h : i ∈ ids1 x) : i ∈ ids3 x := by cases x <;> first | exact h | (simp [ids1] at h)
theorem ids23 {x : A} {i : Nat} (h : i ∈ ids2 x) : i ∈ ids3 x := by cases x <;> first | exact h | (simp [ids2, ids1] at h)
theorem Agree.at {o : Oper} (h : Agree o st st2) {x : Operand} (hx : x ∈ o.op.operands.toList) : (∀ i ∈ ids1 (st.ev x), st2.mem i = st.mem i) ∧ (∀ i ∈ ids2 (st.ev x), st2.mem i = st.mem i) :=
  ⟨fun i hi => h.mem i (.inl (List.mem_flatMap.2 ⟨x, by rw [opL_eq]; exact hx, ids12 hi⟩)), fun i hi => h.mem i (.inl (List.mem_flatMap.2 ⟨x, by rw [opL_eq]; exact hx, ids23 hi⟩))⟩
theorem List.flatMap_congr {α β : Type} {l : List α} {f g : α → List β} (h : ∀ x ∈ l, f x = g x) : l.flatMap f = l.flatMap g := by
  induction l with
  | nil => rfl
  | cons x l ih => rw [List.flatMap_cons, List.flatMap_cons, h x List.mem_cons_self, ih fun y hy => h y (List.mem_cons_of_mem _ hy)]
theorem le1_congr {ρ : Nat → Option Nat} {s s2 : St} {ms : List (Nat × Blk)} (h : s2.mem = s.mem) (x y : A) : le1 ρ s2 ms x y = le1 ρ s ms x y := by
  unfold le1; rw [h]
theorem leCells_congr {ρ : Nat → Option Nat} {s s2 : St} {ms : List (Nat × Blk)} (h : s2.mem = s.mem) : ∀ (x y : List A), leCells ρ s2 ms x y = leCells ρ s ms x y
  | [], [] => rfl
  | x :: l, y :: r => by simp only [leCells, le1_congr h, leCells_congr h l r]
  | [], _ :: _ => rfl
  | _ :: _, [] => rfl
theorem le2_congr {ρ : Nat → Option Nat} {s s2 : St} {ms : List (Nat × Blk)} (h : s2.mem = s.mem) (x y : A) : le2 ρ s2 ms x y = le2 ρ s ms x y := by
  unfold le2
  split
  · exact leCells_congr h _ _
  · exact le1_congr h _ _
theorem le3s_congr {ρ : Nat → Option Nat} {s s2 : St} {ms : List (Nat × Blk)} (h : s2.mem = s.mem) : ∀ {x y : List A}, le3s ρ s ms x y → le3s ρ s2 ms x y
  | [], [], _ => trivial
  | x :: l, y :: r, ⟨h1, h2⟩ => ⟨by rw [le2_congr h]; exact h1, le3s_congr h h2⟩
theorem leB_congr {ρ : Nat → Option Nat} {s s2 : St} {ms : List (Nat × Blk)} (h : s2.mem = s.mem) (x y : Blk) : leB ρ s2 ms x y = leB ρ s ms x y := by
  cases x <;> cases y <;> first | rfl | (simp only [leB]; rw [leCells_congr h])
theorem fitR_congr {ρ : Nat → Option Nat} {s s2 : St} {m : List (Nat × Blk)} (h : s2.mem = s.mem) (hf : FitR ρ s [] m) : FitR ρ s2 [] m :=
  ⟨fun p hp => by simp at hp, fun p hp => by
    have := hf.hms p hp
    unfold leM at this ⊢
    split at this
    · rename_i j hj
      obtain ⟨b, hb, hle⟩ := this
      exact ⟨b, by rw [h]; exact hb, by rw [leB_congr h]; exact hle⟩
    · exact this, hf.inj⟩
theorem callio_local {o : Oper} {c : Call} {f : FuncId} {K : St → Prop} (ho : o.op = .call c) (hc : c.callee = .value (.func f)) (h : CallIO P f o.dst (c.args.toList.map st.ev) st K) : Local P o st K := by
  obtain ⟨callee, args, ts⟩ := c
  dsimp only at hc h
  subst hc
  have hmem : ∀ x ∈ args.toList, x ∈ o.op.operands.toList := fun x hx => by simp [ho, Op.operands, Call.operands]; right; simpa using hx
  have hwr : wrOf o st = (if hasPtr (args.toList.map st.ev) then reach st (args.toList.map st.ev) else []) ++ freshIds o.dst := by simp [wrOf, ho]
  obtain ⟨cargs, m, r, m', ρ, ν, h1, h2, h3, h4, h5, h6, h⟩ := h
  generalize hJ : reach st (args.toList.map st.ev) = J at h4 h6 h
  have hJw : ∀ i, J.contains i = true → i ∈ wrOf o st := fun i hi => by
    rw [hwr]
    rcases h3 with h3 | h3
    · rw [if_pos h3, hJ]; exact List.mem_append.2 (.inl (by simpa using hi))
    · have : reach st (args.toList.map st.ev) = [] := by unfold reach; rw [h3]; rfl
      rw [← hJ, this] at hi; simp at hi
  have hνw : ∀ i p, fnd m' ν i = some p → i ∈ wrOf o st := fun i p hp => by
    obtain ⟨hpm, hν⟩ := fnd_mem hp
    cases hpp : pers p.1 with
    | true =>
      obtain ⟨hρ, _, hlk, _⟩ := h4.old p hpm hpp
      exact hJw i (h4.image _ (look_mem hlk) i (by rw [← hν]; exact hρ))
    | false => rw [hwr]; exact List.mem_append.2 (.inr (by rw [← hν]; exact h5 p hpm hpp))
  have hback : ∀ s2 : St, ∀ i, i ∉ wrOf o st → (s2.back J m' ν).mem i = s2.mem i ∧ (s2.back J m' ν).used i = s2.used i := fun s2 i hi => by
    have hn : fnd m' ν i = none := by
      cases h : fnd m' ν i with
      | none => rfl
      | some p => exact absurd (hνw i p h) hi
    have hj : J.contains i = false := by
      cases h : J.contains i with
      | false => rfl
      | true => exact absurd (hJw i h) hi
    have hj' : i ∉ J := by simpa using hj
    simp [St.back, hn, hj']
  refine ⟨_, h, ⟨by simp [St.back], fun t ht => ?_, fun i hi => ?_, fun i hi => ?_⟩, fun st2 ha K2 hK2 => ?_⟩
  · cases hd : o.dst with
    | none => rfl
    | some d =>
      rw [hd] at ht
      have : t ≠ d := fun e => ht (by rw [e])
      simp [St.put, upd, this, St.back]
  · rw [put_mem]; exact (hback st i hi).1
  · rw [put_used]; exact (hback st i hi).2
  · have hev : args.toList.map st2.ev = args.toList.map st.ev := List.map_congr_left fun x hx => ha.env x (hmem x hx)
    have hmw : ∀ i ∈ wrOf o st, st2.mem i = st.mem i := fun i hi => ha.mem i (.inr hi)
    have hcell : ∀ i ∈ wrOf o st, cellIds st2 i = cellIds st i := fun i hi => by unfold cellIds; rw [hmw i hi]
    have hreach : reach st2 (args.toList.map st.ev) = J := by
      rcases h3 with h3 | h3
      · rw [← hJ]
        unfold reach
        have hl0 : ∀ i ∈ (args.toList.map st.ev).flatMap ids3, i ∈ wrOf o st := fun i hi => hJw i (by rw [← hJ]; unfold reach; simp only [List.contains_eq_mem, decide_eq_true_eq]; exact List.mem_append.2 (.inl hi))
        have e1 : ((args.toList.map st.ev).flatMap ids3).flatMap (cellIds st2) = ((args.toList.map st.ev).flatMap ids3).flatMap (cellIds st) := List.flatMap_congr fun i hi => hcell i (hl0 i hi)
        have hl1 : ∀ i ∈ ((args.toList.map st.ev).flatMap ids3).flatMap (cellIds st), i ∈ wrOf o st := fun i hi => hJw i (by rw [← hJ]; unfold reach; simp only [List.contains_eq_mem, decide_eq_true_eq]; exact List.mem_append.2 (.inr (List.mem_append.2 (.inl hi))))
        rw [e1]
        congr 2
        exact List.flatMap_congr fun i hi => hcell i (hl1 i hi)
      · rw [← hJ]; unfold reach; rw [h3]; rfl
    have honly : (st2.only J).mem = (st.only J).mem := by
      funext i
      simp only [St.only]
      split
      · rename_i hi; exact hmw i (hJw i hi)
      · rfl
    have hc2 : CallOk st2 J ρ ν m m' := ⟨fitR_congr honly h4.fit, h4.image, h4.keys, h4.inj, h4.old, fun p hp hpp => by
      have := h4.new p hp hpp
      rw [ha.used _ (by rw [hwr]; exact List.mem_append.2 (.inr (h5 p hp hpp))), ha.n]
      exact this⟩
    left; unfold stepW0; simp only [ho]
    refine .inr ⟨cargs, m, r, m', ρ, ν, h1, h2, by rw [hev]; exact h3, by rw [hev, hreach]; exact hc2, h5, by rw [hev, hreach]; exact le3s_congr honly h6, ?_⟩
    rw [hev, hreach]
    have e1 : over st2 ((st.back J m' ν).put o.dst (ren3 ν r)) o.dst (wrOf o st) = (st2.back J m' ν).put o.dst (ren3 ν r) := by
      refine St.ext' (by simp [over, St.back]) ?_ ?_ ?_
      · funext t
        show (if o.dst = some t then ((st.back J m' ν).put o.dst (ren3 ν r)).env t else st2.env t) = _
        cases hd : o.dst with
        | none => rfl
        | some d =>
          by_cases ht : t = d
          · subst ht; simp [St.put, upd]
          · have ht' : d ≠ t := fun e => ht e.symm
            simp [St.put, upd, ht, ht', St.back]
      · funext i
        show (if i ∈ wrOf o st then ((st.back J m' ν).put o.dst (ren3 ν r)).mem i else st2.mem i) = _
        rw [put_mem, put_mem]
        split
        · rename_i hi; simp only [St.back, hmw i hi]
        · rename_i hi; exact (hback st2 i hi).1.symm
      · funext i
        show (if i ∈ wrOf o st then ((st.back J m' ν).put o.dst (ren3 ν r)).used i else st2.used i) = _
        rw [put_used, put_used]
        split
        · rename_i hi; simp only [St.back, ha.used i hi]
        · rename_i hi; exact (hback st2 i hi).2.symm
    rw [e1] at hK2
    exact hK2
theorem stepW0_local {o : Oper} {K : St → Prop} (hk : keepsRows o st = true) (h : stepW0 P o st K) : Local P o st K := by
  unfold stepW0 at h
  split at h
  · rename_i x ho
    exact local_put _ (by simp [wrOf, ho]) h fun st2 ha K2 hK => by
      left; unfold stepW0; simp only [ho]; rw [ha.env x (by simp [ho, Op.operands])]; exact hK
  · rename_i x ho
    exact local_put _ (by simp [wrOf, ho]) h fun st2 ha K2 hK => by
      left; unfold stepW0; simp only [ho]; rw [ha.env x (by simp [ho, Op.operands])]; exact hK
  · rename_i c x y ho
    obtain ⟨t, hc, h⟩ := h
    exact local_put _ (by simp [wrOf, ho]) h fun st2 ha K2 hK => by
      left; unfold stepW0; simp only [ho]; rw [ha.env c (by simp [ho, Op.operands]), ha.env x (by simp [ho, Op.operands]), ha.env y (by simp [ho, Op.operands])]; exact ⟨t, hc, hK⟩
  · rename_i ty ho
    obtain ⟨d, ti, h1, h2, h3, h⟩ := h
    exact local_new d h1 _ _ (by simp [wrOf, ho, h1]) h fun st2 ha K2 hK => by
      left; unfold stepW0; simp only [ho]; exact ⟨d, ti, h1, h2, by rw [ha.used d (by simp [wrOf, ho, h1])]; exact h3, hK⟩
  · rename_i ty x ho
    obtain ⟨d, cs, h1, h2, h3, h⟩ := h
    exact local_new d h1 _ _ (by simp [wrOf, ho, h1]) h fun st2 ha K2 hK => by
      left; unfold stepW0; simp only [ho]; rw [ha.env x (by simp [ho, Op.operands])]
      exact ⟨d, cs, h1, h2, by rw [ha.used d (by simp [wrOf, ho, h1])]; exact h3, hK⟩
  · rename_i t parts ho
    obtain ⟨ti, cs, h1, h2, h3, h⟩ := h
    exact local_put _ (by simp [wrOf, ho]) h fun st2 ha K2 hK => by
      left; unfold stepW0; simp only [ho]
      refine ⟨ti, cs, h1, h2, ?_, hK⟩
      rw [← h3]
      congr 1
      exact List.map_congr_left fun p hp => by
        rw [ha.env p.2 (by simp only [ho, Op.operands]; exact List.mem_map.2 ⟨p, hp, rfl⟩)]
  · rename_i t len parts ho
    obtain ⟨d, ti, e, te, xs, h1, h2, h3, h4, h5, h6, h7, h8, h9, h⟩ := h
    have hnil : (parts.toList.flatMap fun (_, x) => refs2 (st.ev x)) = [] := by
      simp only [keepsRows, ho, List.isEmpty_iff] at hk; exact hk
    rw [hnil] at h9 h
    exact local_new d h1 _ _ (by simp [wrOf, ho, h1]) h fun st2 ha K2 hK => by
      have hev : ∀ p ∈ parts.toList, st2.ev p.2 = st.ev p.2 := fun p hp => ha.env p.2 (by simp only [ho, Op.operands]; exact List.mem_map.2 ⟨p, hp, rfl⟩)
      have hnil2 : (parts.toList.flatMap fun (x : Nat × Operand) => refs2 (st2.ev x.2)) = [] := by
        rw [List.flatMap_eq_nil_iff] at hnil ⊢
        intro p hp
        rw [hev p hp]; exact hnil p hp
      left; unfold stepW0; simp only [ho]
      refine ⟨d, ti, e, te, xs, h1, h2, h3, h4, by rw [ha.used d (by simp [wrOf, ho, h1])]; exact h5, h6, h7, h8, ?_, ?_⟩
      · rw [hnil2, ← h9]
        congr 1
        exact List.map_congr_left fun p hp => by
          show (p.1, st2.ev p.2) = (p.1, st.ev p.2)
          rw [hev p hp]
      · rw [hnil2]; exact hK
  · rename_i t x ho
    obtain ⟨ti, y, h1, h2, h⟩ := h
    exact local_put _ (by simp [wrOf, ho]) h fun st2 ha K2 hK => by
      have hx : x ∈ o.op.operands.toList := by simp [ho, Op.operands]
      left; unfold stepW0; simp only [ho]; rw [ha.env x hx]; exact ⟨ti, y, h1, by rw [peek_agree (ha.at hx).1]; exact h2, hK⟩
  · rename_i t p x ho
    obtain ⟨ti, cs, h1, h2, h3, h⟩ := h
    rcases h with ⟨id, off, ty, cells, h4, h5, h6, h⟩ | ⟨id, i, j, e, k, xs, el, l, h4, h5, h6, h7, h8, h⟩
    · exact local_set id _ _ (by simp [wrOf, ho, h4, ids1]) h fun st2 ha K2 hK => by
        left; unfold stepW0; simp only [ho]
        rw [ha.env x (by simp [ho, Op.operands]), ha.env p (by simp [ho, Op.operands])]
        exact ⟨ti, cs, h1, h2, h3, .inl ⟨id, off, ty, cells, h4, by rw [ha.mem id (.inr (by simp [wrOf, ho, h4, ids1]))]; exact h5, h6, hK⟩⟩
    · exact local_set id _ _ (by simp [wrOf, ho, h4, ids1]) h fun st2 ha K2 hK => by
        left; unfold stepW0; simp only [ho]
        rw [ha.env x (by simp [ho, Op.operands]), ha.env p (by simp [ho, Op.operands])]
        exact ⟨ti, cs, h1, h2, h3, .inr ⟨id, i, j, e, k, xs, el, l, h4, by rw [ha.mem id (.inr (by simp [wrOf, ho, h4, ids1]))]; exact h5, h6, h7, h8, hK⟩⟩
  · rename_i x ho
    exact local_put _ (by simp [wrOf, ho]) h.2 fun st2 ha K2 hK => by
      have hx : x ∈ o.op.operands.toList := by simp [ho, Op.operands]
      left; unfold stepW0; simp only [ho]; rw [ha.env x hx]; exact ⟨by rw [isPtr_agree (ha.at hx).1]; exact h.1, hK⟩
  · rename_i op ty x y ty2 ho
    obtain ⟨z, h1, h2, h⟩ := h
    exact local_put _ (by simp [wrOf, ho]) h fun st2 ha K2 hK => by
      have hx : x ∈ o.op.operands.toList := by simp [ho, Op.operands]
      left; unfold stepW0; simp only [ho]; rw [ha.env x hx, ha.env y (by simp [ho, Op.operands])]
      refine ⟨z, ?_, h2, hK⟩
      rw [← h1]
      unfold binA
      rw [isPtr_agree (ha.at hx).1]
  · rename_i op ty x ho
    obtain ⟨y, z, h1, h2, h3, h⟩ := h
    exact local_put _ (by simp [wrOf, ho]) h fun st2 ha K2 hK => by
      left; unfold stepW0; simp only [ho]; rw [ha.env x (by simp [ho, Op.operands])]; exact ⟨y, z, h1, h2, h3, hK⟩
  · rename_i src dst x ho
    obtain ⟨z, h1, h2, h⟩ := h
    exact local_sup _ h fun st2 ha K2 hK => by
      left; unfold stepW0; simp only [ho]; rw [ha.env x (by simp [ho, Op.operands])]; exact ⟨z, h1, h2, hK⟩
  · rename_i s x f ho
    obtain ⟨ti, z, h1, h2, h3, h4, h⟩ := h
    exact local_put _ (by simp [wrOf, ho]) h fun st2 ha K2 hK => by
      have hx : x ∈ o.op.operands.toList := by simp [ho, Op.operands]
      left; unfold stepW0; simp only [ho]; rw [ha.env x hx]; exact ⟨ti, z, h1, h2, by rw [isPtr_agree (ha.at hx).1]; exact h3, h4, hK⟩
  · rename_i s x f ho
    obtain ⟨ti, z, h1, h2, h3, h⟩ := h
    exact local_put _ (by simp [wrOf, ho]) h fun st2 ha K2 hK => by
      left; unfold stepW0; simp only [ho]; rw [ha.env x (by simp [ho, Op.operands])]; exact ⟨ti, z, h1, h2, h3, hK⟩
  · rename_i t x i ho
    obtain ⟨ti, e, te, k', xs, k, n, el, h1, h2, h3, h4, h5, h6, h7, h⟩ := h
    exact local_put _ (by simp [wrOf, ho]) h fun st2 ha K2 hK => by
      have hx : x ∈ o.op.operands.toList := by simp [ho, Op.operands]
      left; unfold stepW0; simp only [ho]; rw [ha.env x hx, ha.env i (by simp [ho, Op.operands])]
      exact ⟨ti, e, te, k', xs, k, n, el, h1, h2, h3, by rw [asList_agree (ha.at hx).1]; exact h4, h5, h6, h7, hK⟩
  · rename_i t x i ho
    obtain ⟨s, k, n, b, h1, h2, h3, h4, h⟩ := h
    exact local_put _ (by simp [wrOf, ho]) h fun st2 ha K2 hK => by
      left; unfold stepW0; simp only [ho]; rw [ha.env x (by simp [ho, Op.operands]), ha.env i (by simp [ho, Op.operands])]
      exact ⟨s, k, n, b, h1, h2, h3, h4, hK⟩
  · rename_i x i ho
    obtain ⟨cs, y, h1, h2, h⟩ := h
    exact local_put _ (by simp [wrOf, ho]) h fun st2 ha K2 hK => by
      left; unfold stepW0; simp only [ho]; rw [ha.env x (by simp [ho, Op.operands])]; exact ⟨cs, y, h1, h2, hK⟩
  · rename_i c ho
    obtain ⟨callee, args, ts⟩ := c
    dsimp only at h
    split at h
    · rename_i x ty tl hargs hts
      obtain ⟨z, h1, h⟩ := h
      exact local_put _ (by simp [wrOf, ho]) h fun st2 ha K2 hK => by
        have hx : x ∈ o.op.operands.toList := by simp [ho, Op.operands, Call.operands, hargs]
        left; unfold stepW0; simp only [ho, hargs, hts]; rw [ha.env x hx]
        refine ⟨z, ?_, hK⟩
        rw [← h1]
        unfold lenA
        split <;> try rfl
        rw [asList_agree (ha.at hx).1]
    · rename_i x y t t' hargs hts
      obtain ⟨d, ti, e, te, k'', ys, h0, h1, h2, h3, h4, h5, h6, h7, h8, h⟩ := h
      have hx : x ∈ o.op.operands.toList := by simp [ho, Op.operands, Call.operands, hargs]
      have hy : y ∈ o.op.operands.toList := by simp [ho, Op.operands, Call.operands, hargs]
      rcases h with ⟨q1, q2, q3, h⟩ | ⟨id, k', xs, q1, q2, q3, q4, q5, h⟩
      · have hw : wrOf o st = [d] := by simp [wrOf, ho, hargs, h1, q1, ids1, A.v]
        exact local_new d h1 _ _ hw h fun st2 ha K2 hK => by
          left; unfold stepW0; simp only [ho, hargs, hts]; rw [ha.env x hx, ha.env y hy]
          exact ⟨d, ti, e, te, k'', ys, h0, h1, h2, h3, h4, h5, by rw [ha.used d (by rw [hw]; simp)]; exact h6, by rw [asList_agree (ha.at hy).1]; exact h7, h8, .inl ⟨q1, q2, q3, hK⟩⟩
      · have hw : wrOf o st = [d, id] := by simp [wrOf, ho, hargs, h1, q1, ids1]
        refine ⟨_, h, by rw [hw]; exact frame_app o st d id h1 _ _, fun st2 ha K2 hK => ?_⟩
        have hid : id ∈ wrOf o st := by rw [hw]; simp
        have hne : id ≠ d ∨ id = d := by omega
        left; unfold stepW0; simp only [ho, hargs, hts]; rw [ha.env x hx, ha.env y hy]
        refine ⟨d, ti, e, te, k'', ys, h0, h1, h2, h3, h4, h5, by rw [ha.used d (by rw [hw]; simp)]; exact h6, by rw [asList_agree (ha.at hy).1]; exact h7, h8, .inr ⟨id, k', xs, q1, by rw [ha.mem id (.inr hid)]; exact q2, q3, q4, q5, ?_⟩⟩
        rw [hw, h1] at hK
        rw [h1]
        rcases hne with hne | rfl
        · rw [over_app _ _ _ _ _ _ hne (ha.used id hid)] at hK; exact hK
        · have e1 : over st2 (((st.del id).new id (.row e te.size (xs ++ ys))).put (some id) (.ref id)) (some id) [id, id] = ((st2.del id).new id (.row e te.size (xs ++ ys))).put (some id) (.ref id) := by
            simp only [over, St.put, St.new, St.del, Option.some.injEq, List.mem_cons, List.not_mem_nil, or_false, or_self]
            congr 1
            · funext t
              by_cases h : id = t
              · subst h; simp [upd]
              · have h' : t ≠ id := fun e => h e.symm
                simp [upd, h, h']
            · funext i
              by_cases h : i = id <;> simp [upd, h]
            · funext i
              by_cases h : i = id <;> simp [upd, h]
          rw [e1] at hK; exact hK
    · rename_i f
      have hmem : ∀ x ∈ args.toList, x ∈ o.op.operands.toList := fun x hx => by simp [ho, Op.operands, Call.operands]; right; simpa using hx
      have hwr : wrOf o st = (if hasPtr (args.toList.map st.ev) then reach st (args.toList.map st.ev) else []) ++ freshIds o.dst := by simp [wrOf, ho]
      rcases h with ⟨r, h1, h2, h⟩ | ⟨cargs, m, r, m', ρ, ν, h1, h2, h3, h4, h5, h6, h⟩
      · have hnil : (args.toList.map st.ev).flatMap refs2 = [] := by
          rw [List.flatMap_map]
          simp only [keepsRows, ho, List.isEmpty_iff] at hk; exact hk
        have hK : K (st.put o.dst r) := by
          rcases h with ⟨_, h⟩ | h
          · exact h
          · rw [hnil] at h; exact h
        refine ⟨_, hK, ?_, fun st2 ha K2 hK2 => ?_⟩
        · have := frame_put o st r
          exact ⟨this.n, this.env, fun i _ => this.mem i (by simp), fun i _ => this.used i (by simp)⟩
        · have hev : args.toList.map st2.ev = args.toList.map st.ev := List.map_congr_left fun x hx => ha.env x (hmem x hx)
          have hmap : (args.toList.map fun x => arg2 st2 (st2.ev x)) = args.toList.map fun x => arg2 st (st.ev x) := List.map_congr_left fun x hx => by
            rw [ha.env x (hmem x hx), arg2_agree (ha.at (hmem x hx)).2]
          have e1 : over st2 (st.put o.dst r) o.dst (wrOf o st) = st2.put o.dst r := by
            rw [← over_put st2 st]
            refine St.ext' rfl rfl ?_ ?_
            · funext i
              show (if i ∈ wrOf o st then (st.put o.dst r).mem i else st2.mem i) = st2.mem i
              split
              · rename_i hi; rw [put_mem, ha.mem i (.inr hi)]
              · rfl
            · funext i
              show (if i ∈ wrOf o st then (st.put o.dst r).used i else st2.used i) = st2.used i
              split
              · rename_i hi; rw [put_used, ha.used i hi]
              · rfl
          rw [e1] at hK2
          left; unfold stepW0; simp only [ho]
          refine .inl ⟨r, by rw [hmap]; exact h1, by rw [hmap]; exact h2, .inr ?_⟩
          rw [hev, hnil]; exact hK2
      · exact callio_local (c := ⟨.value (.func f), args, ts⟩) ho rfl ⟨cargs, m, r, m', ρ, ν, h1, h2, h3, h4, h5, h6, h⟩
    · exact h.elim
  · exact h.elim
theorem argsOf_agree {o : Oper} (ha : Agree o st st2) : argsOf o st2 = argsOf o st ∧ noRefs o st2 = noRefs o st := by
  have hev : ∀ x ∈ opL o.op, st2.ev x = st.ev x := fun x hx => ha.env x (by rw [← opL_eq]; exact hx)
  refine ⟨List.map_congr_left fun x hx => ?_, ?_⟩
  · rw [hev x hx, arg2_agree (ha.at (by rw [← opL_eq]; exact hx)).2]
  · unfold noRefs
    rw [List.flatMap_congr fun x hx => by rw [hev x hx]]
theorem other_local {o : Oper} {K : St → Prop} (h : Other P o st K) : Local P o st K := by
  obtain ⟨hf, h⟩ := h
  rcases h with ⟨x, h1, h2, hK⟩ | ⟨d, e, k, ys, h1, h2, h3, ⟨h4, h5⟩, hK⟩
  · refine local_sup x hK fun st2 ha K2 hK2 => ?_
    obtain ⟨e1, e2⟩ := argsOf_agree ha
    exact .inr (.inl ⟨by rw [e1]; exact hf, .inl ⟨x, by rw [e1]; exact h1, by rw [e2]; exact h2, hK2⟩⟩)
  · have hdw : d ∈ wrOf o st := by
      unfold makesRow at h5
      unfold wrOf
      split at h5
      · rename_i ho; simp [ho, h1]
      · rename_i ho; simp only [ho]; rw [if_pos h5, h1]; simp
      · rename_i c ho
        simp only [ho]
        split at h5
        · rename_i hc ha; rw [hc, ha]; simp [h1]
        · cases h5
      · cases h5
    refine ⟨_, hK, ?_, fun st2 ha K2 hK2 => ?_⟩
    · have := frame_new o st d h1 (.row e k ys) (.ref d)
      exact ⟨this.n, this.env, fun i hi => this.mem i (fun h => hi (by rw [List.mem_singleton.1 h]; exact hdw)), fun i hi => this.used i (fun h => hi (by rw [List.mem_singleton.1 h]; exact hdw))⟩
    · have e1 : over st2 ((st.new d (.row e k ys)).put o.dst (.ref d)) o.dst (wrOf o st) = (st2.new d (.row e k ys)).put o.dst (.ref d) := by
        have e0 := over_new st2 st d (.row e k ys) (.ref d)
        rw [← h1] at e0
        rw [← e0]
        refine St.ext' rfl rfl ?_ ?_
        · funext i
          show (if i ∈ wrOf o st then ((st.new d (.row e k ys)).put o.dst (.ref d)).mem i else st2.mem i) = (if i ∈ [d] then ((st.new d (.row e k ys)).put o.dst (.ref d)).mem i else st2.mem i)
          by_cases hi : i = d
          · subst hi; simp [hdw]
          · by_cases hw : i ∈ wrOf o st
            · rw [if_pos hw, if_neg (by simpa using hi), put_mem]
              simp only [St.new, upd, hi, if_false]
              exact (ha.mem i (.inr hw)).symm
            · rw [if_neg hw, if_neg (by simpa using hi)]
        · funext i
          show (if i ∈ wrOf o st then ((st.new d (.row e k ys)).put o.dst (.ref d)).used i else st2.used i) = (if i ∈ [d] then ((st.new d (.row e k ys)).put o.dst (.ref d)).used i else st2.used i)
          by_cases hi : i = d
          · subst hi; simp [hdw]
          · by_cases hw : i ∈ wrOf o st
            · rw [if_pos hw, if_neg (by simpa using hi), put_used]
              simp only [St.new, upd, hi, if_false]
              exact (ha.used i hw).symm
            · rw [if_neg hw, if_neg (by simpa using hi)]
      rw [e1] at hK2
      obtain ⟨q1, q2⟩ := argsOf_agree ha
      have hmk : makesRow o st2 = makesRow o st := by
        unfold makesRow
        split <;> try rfl
        rename_i ho
        rw [ha.env _ (by rw [← opL_eq, ho]; simp [opL])]
      exact .inr (.inl ⟨by rw [q1]; exact hf, .inr ⟨d, e, k, ys, h1, by rw [ha.used d hdw]; exact h2, by rw [q1]; exact h3, ⟨by rw [q2]; exact h4, by rw [hmk]; exact h5⟩, hK2⟩⟩)
theorem refs_at {o : Oper} {i id : Nat} {y : A} (h : ((opL o.op).map st.ev)[i]? = some y) (hy : own1 y = [id]) : id ∈ (opL o.op).flatMap fun x => own1 (st.ev x) := by
  rw [List.getElem?_map] at h
  obtain ⟨x, hx, he⟩ := Option.map_eq_some_iff.1 h
  exact List.mem_flatMap.2 ⟨x, List.mem_of_getElem? hx, by rw [he, hy]; simp⟩
theorem newobj_local {o : Oper} {K : St → Prop} (od : Od) (d : Nat) (h0 : newsObj o = true) (h1 : o.dst = some d) (h2 : st.used d = false) (h3 : noRefs o st = true) (h4 : (argsOf o st).all flat2 = true) (h5 : NewObj P o (argsOf o st) od) (hK : K ((st.new d (.obj od)).put o.dst (.ob d))) : Local P o st K := by
  have hw : wrOf o st = [d] := by
    unfold newsObj at h0
    unfold wrOf
    split at h0
    · rename_i ho; simp [ho, h1]
    · rename_i ho; simp [ho, h1]
    · cases h0
  refine local_new d h1 _ _ hw hK fun st2 ha K2 hK2 => ?_
  obtain ⟨e1, e2⟩ := argsOf_agree ha
  exact .inr (.inr (.inl (.inr (.inr ⟨od, d, h0, h1, by rw [ha.used d (by rw [hw]; simp)]; exact h2, by rw [e2]; exact h3, by rw [e1]; exact h4, by rw [e1]; exact h5, hK2⟩))))
theorem owns_local {o : Oper} {K : St → Prop} (h : Owns P o st K) : Local P o st K := by
  have hev : ∀ st2, Agree o st st2 → (opL o.op).map st2.ev = (opL o.op).map st.ev := fun st2 ha => List.map_congr_left fun x hx => ha.env x (by rw [← opL_eq]; exact hx)
  rcases h with ⟨i, b, xs, b', id, d, h0, h1, h2, h3, h4, h5, h6, hK⟩ | ⟨i, b, xs, b', r, id, h0, h1, h2, h3, h4, h5, hK⟩ | ⟨od, d, h0, h1, h2, h3, h4, h5, hK⟩
  · have hid := refs_at h2 rfl
    have hw : id ∈ wrOf o st ∧ d ∈ wrOf o st := by
      unfold movesRow at h0
      unfold wrOf
      split at h0
      · rename_i ho
        simp only [ho] at hid ⊢
        split
        · rename_i e; rw [e] at hid; simp at hid
        · rename_i l e; exact ⟨List.mem_append.2 (.inr hid), by simp [h1]⟩
      · rename_i c ho
        simp only [ho] at hid ⊢
        split at h0
        · rename_i hc
          have hi0 : i = 0 := Nat.eq_of_beq_eq_true h0
          subst hi0
          simp only [ho, opL, hc, List.nil_append] at h2
          simp only [hc]
          cases hl : c.args.toList with
          | nil => rw [hl] at h2; simp at h2
          | cons x l =>
            rw [hl] at h2
            simp only [List.map_cons, List.getElem?_cons_zero, Option.some.injEq] at h2
            simp only
            exact ⟨List.mem_append.2 (.inr (by rw [h2]; simp [ids1])), by simp [h1]⟩
        · cases h0
      · cases h0
    have hne : id ≠ d ∨ id = d := (Decidable.em (id = d)).symm
    refine ⟨_, hK, ?_, fun st2 ha K2 hK2 => ?_⟩
    · have := frame_app o st d id h1 b' (.ref d)
      exact ⟨this.n, this.env, fun j hj => this.mem j (fun h => by simp at h; rcases h with rfl | rfl <;> simp_all), fun j hj => this.used j (fun h => by simp at h; rcases h with rfl | rfl <;> simp_all)⟩
    · refine .inr (.inr (.inl (.inl ⟨i, b, xs, b', id, d, h0, h1, by rw [hev st2 ha]; exact h2, by rw [hev st2 ha]; exact h3, by rw [ha.mem id (.inr hw.1)]; exact h4, by rw [ha.used d hw.2]; exact h5, h6, ?_⟩)))
      have e1 : over st2 (((st.del id).new d b').put o.dst (.ref d)) o.dst (wrOf o st) = ((st2.del id).new d b').put o.dst (.ref d) := by
        rw [h1]
        refine St.ext' rfl ?_ ?_ ?_
        · funext t
          show (if some d = some t then (((st.del id).new d b').put (some d) (.ref d)).env t else st2.env t) = _
          by_cases ht : d = t
          · subst ht; simp [St.put, upd]
          · have ht' : t ≠ d := fun e => ht e.symm
            simp [St.put, upd, ht, ht', St.new, St.del]
        · funext j
          show (if j ∈ wrOf o st then (((st.del id).new d b').put (some d) (.ref d)).mem j else st2.mem j) = _
          rw [put_mem, put_mem]
          simp only [St.new, St.del, upd]
          by_cases hj : j = d
          · simp [hj, hw.2]
          · by_cases hj2 : j = id
            · subst hj2; simp [hj, hw.1]
            · by_cases hj3 : j ∈ wrOf o st
              · simp [hj, hj2, hj3, ha.mem j (.inr hj3)]
              · simp [hj, hj2, hj3]
        · funext j
          show (if j ∈ wrOf o st then (((st.del id).new d b').put (some d) (.ref d)).used j else st2.used j) = _
          rw [put_used, put_used]
          simp only [St.new, St.del, upd]
          by_cases hj : j = d
          · simp [hj, hw.2]
          · by_cases hj3 : j ∈ wrOf o st
            · simp [hj, hj3, ha.used j hj3]
            · simp [hj, hj3]
      rw [e1] at hK2
      exact hK2
  · have hid := refs_at h1 (own1_name b id)
    have hw : id ∈ wrOf o st := by
      unfold setsRow at h0
      unfold wrOf
      split at h0
      · rename_i c ho
        simp only [ho] at hid ⊢
        split at h0
        · rename_i hc; simp only [hc]; exact hid
        · rename_i hc; simp only [hc]; exact hid
        · rename_i hc; simp only [hc]; exact hid
        · cases h0
      · rename_i ho; simp only [ho] at hid ⊢; exact hid
      · rename_i ho; simp only [ho] at hid ⊢; exact hid
      · rename_i ho; simp only [ho] at hid ⊢; exact hid
      · cases h0
    refine ⟨_, hK, ?_, fun st2 ha K2 hK2 => ?_⟩
    · have := frame_set o st id b' r
      exact ⟨this.n, this.env, fun j hj => this.mem j (fun h => by simp at h; subst h; exact hj hw), fun j hj => this.used j (fun h => by simp at h; subst h; exact hj hw)⟩
    · refine .inr (.inr (.inl (.inr (.inl ⟨i, b, xs, b', r, id, h0, by rw [hev st2 ha]; exact h1, by rw [hev st2 ha]; exact h2, by rw [ha.mem id (.inr hw)]; exact h3, by rw [ha.used id hw]; exact h4, h5, ?_⟩))))
      have e1 : over st2 ((st.setm id b').put o.dst r) o.dst (wrOf o st) = (st2.setm id b').put o.dst r := by
        refine St.ext' (by simp [over, St.setm]) ?_ ?_ ?_
        · funext t
          show (if o.dst = some t then ((st.setm id b').put o.dst r).env t else st2.env t) = _
          cases hd : o.dst with
          | none => rfl
          | some d =>
            by_cases ht : d = t
            · subst ht; simp [St.put, upd]
            · have ht' : t ≠ d := fun e => ht e.symm
              simp [St.put, upd, ht, ht', St.setm]
        · funext j
          show (if j ∈ wrOf o st then ((st.setm id b').put o.dst r).mem j else st2.mem j) = _
          rw [put_mem, put_mem]
          simp only [St.setm, upd]
          by_cases hj2 : j = id
          · subst hj2; simp [hw]
          · by_cases hj3 : j ∈ wrOf o st
            · simp [hj2, hj3, ha.mem j (.inr hj3)]
            · simp [hj2, hj3]
        · funext j
          show (if j ∈ wrOf o st then ((st.setm id b').put o.dst r).used j else st2.used j) = _
          rw [put_used, put_used]
          simp only [St.setm]
          by_cases hj3 : j ∈ wrOf o st
          · simp [hj3, ha.used j hj3]
          · simp [hj3]
      rw [e1] at hK2
      exact hK2
  · exact newobj_local od d h0 h1 h2 h3 h4 h5 hK
theorem callv_local {o : Oper} {K : St → Prop} (h : CallV P o st K) : Local P o st K := by
  obtain ⟨c, x, t, r, h1, h2, h3, h4, h5, h6, hK⟩ := h
  refine local_sup r hK fun st2 ha K2 hK2 => ?_
  have hx : x ∈ o.op.operands.toList := by rw [h1]; simp [Op.operands, Call.operands, h2]
  have hmem : ∀ y ∈ c.args.toList, y ∈ o.op.operands.toList := fun y hy => by rw [h1]; simp [Op.operands, Call.operands, h2]; right; simpa using hy
  have hev : c.args.toList.map st2.ev = c.args.toList.map st.ev := List.map_congr_left fun y hy => ha.env y (hmem y hy)
  have hmap : (c.args.toList.map fun y => arg2 st2 (st2.ev y)) = c.args.toList.map fun y => arg2 st (st.ev y) := List.map_congr_left fun y hy => by
    rw [ha.env y (hmem y hy), arg2_agree (ha.at (hmem y hy)).2]
  exact .inr (.inr (.inr (.inl ⟨c, x, t, r, h1, h2, by rw [ha.env x hx]; exact h3, by rw [hmap]; exact h4, by rw [hmap]; exact h5, by rw [hev]; exact h6, hK2⟩)))
theorem lookC_agree {x : A} (h : ∀ i ∈ ids1 x, st2.mem i = st.mem i) : lookC st2 x = lookC st x := by
  cases x with
  | ref id => unfold lookC; dsimp only; rw [h id (by simp [ids1])]
  | _ => rfl
theorem lookCs_agree : ∀ {cs : List A}, (∀ c ∈ cs, ∀ i ∈ ids1 c, st2.mem i = st.mem i) → lookCs st2 cs = lookCs st cs
  | [], _ => rfl
  | c :: cs, h => by
    unfold lookCs
    rw [lookC_agree (h c List.mem_cons_self), lookCs_agree fun c hc => h c (List.mem_cons_of_mem _ hc)]
theorem look1_agree {x : A} (h : ∀ i ∈ ids1 x, st2.mem i = st.mem i) (h2 : ptr1 x = true → ∀ i ∈ ids1 x, ∀ j ∈ cellIds st i, st2.mem j = st.mem j) : look1 st2 x = look1 st x := by
  cases x with
  | ptr id off =>
    unfold look1
    dsimp only
    rw [h id (by simp [ids1])]
    split
    · rename_i ty cs hm
      rw [lookCs_agree fun c hc i hi => h2 rfl id (by simp [ids1]) i (by unfold cellIds; rw [hm]; exact List.mem_flatMap.2 ⟨c, List.mem_of_mem_drop hc, hi⟩)]
    · rfl
  | ref id => exact arg1_agree h
  | _ => rfl
theorem look2_agree {x : A} (h : ∀ i ∈ ids2 x, st2.mem i = st.mem i) (h2 : ptr2 x = true → ∀ i ∈ ids2 x, ∀ j ∈ cellIds st i, st2.mem j = st.mem j) : look2 st2 x = look2 st x := by
  cases x with
  | agg cs =>
    show A.agg (cs.map (look1 st2)) = A.agg (cs.map (look1 st))
    congr 1
    exact List.map_congr_left fun y hy => look1_agree (fun i hi => h i (List.mem_flatMap.2 ⟨y, hy, hi⟩)) fun hp i hi j hj => h2 (List.any_eq_true.2 ⟨y, hy, by simp [hp]⟩) i (List.mem_flatMap.2 ⟨y, hy, hi⟩) j hj
  | tup cs => rfl
  | t y => rfl
  | fel c => rfl
  | dead => rfl
  | ref id => exact look1_agree (x := .ref id) h (fun hp => h2 (by cases hp))
  | ptr id o => exact look1_agree (x := .ptr id o) h (fun hp => h2 hp)
  | ifc ty id o => exact look1_agree (x := .ifc ty id o) h (fun hp => h2 hp)
  | rptr id i j => exact look1_agree (x := .rptr id i j) h (fun hp => h2 (by cases hp))
  | ob id => exact look1_agree (x := .ob id) h (fun hp => h2 hp)
theorem look_agree {o : Oper} {c : Call} {f : FuncId} (ho : o.op = .call c) (hc : c.callee = .value (.func f)) (he : ∀ x ∈ o.op.operands.toList, st2.ev x = st.ev x) (hm : ∀ i, i ∈ fpOf o st ∨ i ∈ wrOf o st → st2.mem i = st.mem i) :
    (c.args.toList.map fun y => look2 st2 (st2.ev y)) = c.args.toList.map fun y => look2 st (st.ev y) := by
  have hmem : ∀ y ∈ c.args.toList, y ∈ o.op.operands.toList := fun y hy => by rw [← opL_eq, ho]; simp only [opL, hc]; exact List.mem_append_right _ hy
  refine List.map_congr_left fun y hy => ?_
  rw [he y (hmem y hy)]
  have hfp : ∀ i ∈ ids2 (st.ev y), i ∈ fpOf o st := fun i hi => List.mem_flatMap.2 ⟨y, by rw [opL_eq]; exact hmem y hy, ids23 hi⟩
  refine look2_agree (fun i hi => hm i (.inl (hfp i hi))) fun hp i hi j hj => hm j (.inr ?_)
  have hwr : wrOf o st = (if hasPtr (c.args.toList.map st.ev) then reach st (c.args.toList.map st.ev) else []) ++ freshIds o.dst := by
    unfold wrOf; rw [ho]; simp only [hc]
  have hpt : hasPtr (c.args.toList.map st.ev) = true := List.any_eq_true.2 ⟨_, List.mem_map.2 ⟨y, hy, rfl⟩, hp⟩
  rw [hwr, hpt, if_pos rfl]
  refine List.mem_append.2 (.inl ?_)
  unfold reach
  refine List.mem_append.2 (.inr (List.mem_append.2 (.inl ?_)))
  exact List.mem_flatMap.2 ⟨i, List.mem_flatMap.2 ⟨_, List.mem_map.2 ⟨y, hy, rfl⟩, ids23 hi⟩, hj⟩
theorem lookw_local {o : Oper} {K : St → Prop} (h : LookW P o st K) : Local P o st K := by
  obtain ⟨c, f, r, h1, h2, h3, h4, h5, hK⟩ := h
  refine local_sup r hK fun st2 ha K2 hK2 => ?_
  have hmap := look_agree h1 h2 ha.env ha.mem
  exact .inr (.inr (.inr (.inr ⟨c, f, r, h1, h2, by rw [hmap]; exact h3, by rw [hmap]; exact h4, h5, hK2⟩)))
theorem stepW_local {o : Oper} {K : St → Prop} (hk : keepsRows o st = true) (h : stepW P o st K) : Local P o st K := by
  rcases h with h | h | h | h | h
  · exact stepW0_local hk h
  · exact other_local h
  · exact owns_local h
  · exact callv_local h
  · exact lookw_local h
end Go.Proofs.Ytblikpgdepjhdaa
namespace Go.Proofs.Ytblikpgdepjhdaa
open Go.RowKit
set_option linter.unusedVariables false
variable {C : Ctx} {st st' st2 : St} {L L' : Nat → Loc} {a : Act} {w : World} {P : Program}
structure Tr where
  s : Nat → St
  d : Nat → Option Nat
  wr : Nat → List Nat
def mix (t : Tr) (S : Nat → Bool) : Nat → St
  | 0 => t.s 0
  | m + 1 => if S m then over (mix t S m) (t.s (m + 1)) (t.d m) (t.wr m) else mix t S m
structure TrOk (t : Tr) (n : Nat) : Prop where
  hn : ∀ i, i < n → (t.s (i + 1)).n = (t.s i).n
  env : ∀ i, i < n → ∀ x, t.d i ≠ some x → (t.s (i + 1)).env x = (t.s i).env x
  mem : ∀ i, i < n → ∀ x, x ∉ t.wr i → (t.s (i + 1)).mem x = (t.s i).mem x
  used : ∀ i, i < n → ∀ x, x ∉ t.wr i → (t.s (i + 1)).used x = (t.s i).used x
theorem mix_n {t : Tr} {n : Nat} (h : TrOk t n) (S : Nat → Bool) : ∀ m, m ≤ n → (mix t S m).n = (t.s 0).n
  | 0, _ => rfl
  | m + 1, hm => by
    unfold mix
    split
    · exact mix_n h S m (by omega)
    · exact mix_n h S m (by omega)
theorem s_n {t : Tr} {n : Nat} (h : TrOk t n) : ∀ m, m ≤ n → (t.s m).n = (t.s 0).n
  | 0, _ => rfl
  | m + 1, hm => by rw [h.hn m (by omega), s_n h m (by omega)]
theorem mix_env {t : Tr} {n : Nat} (h : TrOk t n) (S : Nat → Bool) (x j : Nat) (hS : ∀ k, k < n → t.d k = some x → (S k = true ↔ k < j)) : ∀ m, m ≤ n → (mix t S m).env x = (t.s (min m j)).env x
  | 0, _ => by simp [mix]
  | m + 1, hm => by
    have ih := mix_env h S x j hS m (by omega)
    unfold mix
    by_cases hd : t.d m = some x
    · have := hS m (by omega) hd
      by_cases hs : S m = true
      · rw [if_pos hs]
        have hlt := this.1 hs
        simp only [over, hd, if_true]
        rw [show min (m + 1) j = m + 1 by omega]
      · rw [if_neg hs, ih]
        have hlt : ¬ m < j := fun hl => hs (this.2 hl)
        rw [show min m j = j by omega, show min (m + 1) j = j by omega]
    · have e : (if S m = true then over (mix t S m) (t.s (m + 1)) (t.d m) (t.wr m) else mix t S m).env x = (mix t S m).env x := by
        split
        · simp [over, hd]
        · rfl
      rw [e, ih]
      by_cases hl : m < j
      · rw [show min m j = m by omega, show min (m + 1) j = m + 1 by omega, h.env m (by omega) x hd]
      · rw [show min m j = j by omega, show min (m + 1) j = j by omega]
theorem mix_mem {t : Tr} {n : Nat} (h : TrOk t n) (S : Nat → Bool) (x j : Nat) (hS : ∀ k, k < n → x ∈ t.wr k → (S k = true ↔ k < j)) : ∀ m, m ≤ n → (mix t S m).mem x = (t.s (min m j)).mem x ∧ (mix t S m).used x = (t.s (min m j)).used x
  | 0, _ => by simp [mix]
  | m + 1, hm => by
    have ih := mix_mem h S x j hS m (by omega)
    unfold mix
    by_cases hd : x ∈ t.wr m
    · have := hS m (by omega) hd
      by_cases hs : S m = true
      · rw [if_pos hs]
        have hlt := this.1 hs
        simp only [over, hd, if_true]
        rw [show min (m + 1) j = m + 1 by omega]
        exact ⟨rfl, rfl⟩
      · rw [if_neg hs, ih.1, ih.2]
        have hlt : ¬ m < j := fun hl => hs (this.2 hl)
        rw [show min m j = j by omega, show min (m + 1) j = j by omega]
        exact ⟨rfl, rfl⟩
    · have e : (if S m = true then over (mix t S m) (t.s (m + 1)) (t.d m) (t.wr m) else mix t S m).mem x = (mix t S m).mem x ∧ (if S m = true then over (mix t S m) (t.s (m + 1)) (t.d m) (t.wr m) else mix t S m).used x = (mix t S m).used x := by
        split
        · simp [over, hd]
        · exact ⟨rfl, rfl⟩
      rw [e.1, e.2, ih.1, ih.2]
      by_cases hl : m < j
      · rw [show min m j = m by omega, show min (m + 1) j = m + 1 by omega, h.mem m (by omega) x hd, h.used m (by omega) x hd]
        exact ⟨rfl, rfl⟩
      · rw [show min m j = j by omega, show min (m + 1) j = j by omega]
        exact ⟨rfl, rfl⟩
theorem mix_all {t : Tr} {n : Nat} (h : TrOk t n) (S : Nat → Bool) (hS : ∀ k, k < n → S k = true) : mix t S n = t.s n := by
  refine St.ext' (by rw [mix_n h S n (Nat.le_refl _), s_n h n (Nat.le_refl _)]) ?_ ?_ ?_
  · funext x; rw [mix_env h S x n (fun k hk _ => by simp [hS k hk, hk]) n (Nat.le_refl _), Nat.min_self]
  · funext x; rw [(mix_mem h S x n (fun k hk _ => by simp [hS k hk, hk]) n (Nat.le_refl _)).1, Nat.min_self]
  · funext x; rw [(mix_mem h S x n (fun k hk _ => by simp [hS k hk, hk]) n (Nat.le_refl _)).2, Nat.min_self]
theorem mix_more {t : Tr} (S S' : Nat → Bool) (j : Nat) (hj : S j = false) (hS' : ∀ k, S' k = (if k = j then true else S k)) : ∀ m, (∀ k, j < k → k < m → S k = true → (∀ x, t.d j = some x → t.d k ≠ some x) ∧ ∀ x, x ∈ t.wr j → x ∉ t.wr k) →
    mix t S' m = if j < m then over (mix t S m) (t.s (j + 1)) (t.d j) (t.wr j) else mix t S m
  | 0, _ => by simp [mix]
  | m + 1, h => by
    have ih := mix_more S S' j hj hS' m (fun k h1 h2 => h k h1 (by omega))
    unfold mix
    rw [hS' m, ih]
    by_cases e : m = j
    · subst e
      simp [hj]
    · rw [if_neg e]
      by_cases hl : j < m
      · rw [if_pos hl, if_pos (show j < m + 1 by omega)]
        by_cases hs : S m = true
        · rw [if_pos hs, if_pos hs]
          obtain ⟨h1, h2⟩ := h m hl (by omega) hs
          refine St.ext' rfl ?_ ?_ ?_
          · funext x
            simp only [over]
            by_cases c1 : t.d j = some x
            · rw [if_neg (h1 x c1), if_pos c1, if_pos c1]
            · rw [if_neg c1, if_neg c1]
          · funext x
            simp only [over]
            by_cases c1 : x ∈ t.wr j
            · rw [if_neg (h2 x c1), if_pos c1, if_pos c1]
            · rw [if_neg c1, if_neg c1]
          · funext x
            simp only [over]
            by_cases c1 : x ∈ t.wr j
            · rw [if_neg (h2 x c1), if_pos c1, if_pos c1]
            · rw [if_neg c1, if_neg c1]
        · rw [if_neg hs, if_neg hs]
      · rw [if_neg hl, if_neg (show ¬ j < m + 1 by omega)]
def bound (o : Oper) : List Nat := o.after.toList.filterMap fun e => if Region.binds .any e then some e.on else none
def maskOf (ms : List Nat) (o : Oper) : Nat := (bound o).foldl (fun s j => s ||| (2 ^ j ||| ms.getD j 0)) 0
def masksFrom : List Oper → List Nat → List Nat
  | [], acc => acc
  | o :: l, acc => masksFrom l (acc ++ [maskOf acc o])
def masks (ops : List Oper) : List Nat := masksFrom ops []
def slotsOf (ops : List Oper) (o : Oper) : List Nat := opTmps o ++ (match o.guard with | some (j, _) => (match nthOp ops j with | some g => g.dst.toList | none => []) | none => [])
def apartO (ops : List Oper) (x y : Oper) : Bool :=
  x.dst.toList.all (fun d => !(slotsOf ops y).contains d && !(y.dst.toList).contains d) && y.dst.toList.all (fun d => !(slotsOf ops x).contains d)
def disj (l r : List Nat) : Bool := l.all fun x => !r.contains x
def openPair (ms : List Nat) (i k : Nat) : Bool := !(ms.getD k 0).testBit i
def forPairs (n : Nat) (f : Nat → Nat → Bool) : Bool := (List.range n).all fun k => (List.range k).all fun i => f i k
def downwards (ops : List Oper) : Bool := (List.range ops.length).all fun i => match nthOp ops i with | some o => (bound o).all fun j => decide (j < i) | none => true
def textOkM (ops : List Oper) (ms : List Nat) : Bool :=
  downwards ops && forPairs ops.length fun i k => match nthOp ops i, nthOp ops k with | some x, some y => !openPair ms i k || apartO ops x y | _, _ => true
def textOk (ops : List Oper) : Bool := textOkM ops (masks ops)
def opensM (ms : List Nat) (n : Nat) : List (Nat × Nat) := (List.range n).flatMap fun k => (List.range k).filterMap fun i => if openPair ms i k then some (i, k) else none
def opens (ops : List Oper) : List (Nat × Nat) := opensM (masks ops) ops.length
def fpAt (fps : List (List Nat × List Nat)) (i : Nat) : List Nat × List Nat := fps.getD i ([], [])
def metOk (ops : List Oper) (fps : List (List Nat × List Nat)) : Bool :=
  (opens ops).all fun p => disj (fpAt fps p.1).2 ((fpAt fps p.2).1 ++ (fpAt fps p.2).2) && disj (fpAt fps p.2).2 (fpAt fps p.1).1
theorem opens_mem {ops : List Oper} {i k : Nat} (hk : k < ops.length) (hi : i < k) (h : openPair (masks ops) i k = true) : (i, k) ∈ opens ops := by
  refine List.mem_flatMap.2 ⟨k, List.mem_range.2 hk, List.mem_filterMap.2 ⟨i, List.mem_range.2 hi, by rw [if_pos h]⟩⟩
theorem mask_bit (ms : List Nat) (i : Nat) : ∀ (l : List Nat) (s : Nat), (l.foldl (fun s j => s ||| (2 ^ j ||| ms.getD j 0)) s).testBit i = true → s.testBit i = true ∨ ∃ q ∈ l, q = i ∨ (ms.getD q 0).testBit i = true
  | [], s, h => .inl h
  | q :: l, s, h => by
    rcases mask_bit ms i l _ h with h | ⟨x, hx, h⟩
    · simp only [Nat.testBit_or, Bool.or_eq_true, Nat.testBit_two_pow, decide_eq_true_eq] at h
      rcases h with h | h | h
      · exact .inl h
      · exact .inr ⟨q, List.mem_cons_self, .inl h⟩
      · exact .inr ⟨q, List.mem_cons_self, .inr h⟩
    · exact .inr ⟨x, List.mem_cons_of_mem _ hx, h⟩
def MaskOk (ops : List Oper) (ms : List Nat) : Prop := ∀ k o i, nthOp ops k = some o → (ms.getD k 0).testBit i = true → ∃ q ∈ bound o, q = i ∨ (q < k ∧ (ms.getD q 0).testBit i = true)
theorem masksFrom_ok (ops : List Oper) : ∀ (l : List Oper) (acc : List Nat), ops.drop acc.length = l → MaskOk ops acc → MaskOk ops (masksFrom l acc)
  | [], acc, _, h => h
  | o :: l, acc, hd, h => by
    refine masksFrom_ok ops l _ ?_ ?_
    · rw [List.length_append, List.length_singleton, ← List.drop_drop, hd]; rfl
    · intro k o' i ho hb
      rcases Nat.lt_trichotomy k acc.length with hk | hk | hk
      · have e : (acc ++ [maskOf acc o]).getD k 0 = acc.getD k 0 := by simp [List.getD_eq_getElem?_getD, List.getElem?_append_left hk]
        rw [e] at hb
        obtain ⟨q, hq, h'⟩ := h k o' i ho hb
        refine ⟨q, hq, h'.imp_right fun ⟨h1, h2⟩ => ⟨h1, ?_⟩⟩
        have e : (acc ++ [maskOf acc o]).getD q 0 = acc.getD q 0 := by simp [List.getD_eq_getElem?_getD, List.getElem?_append_left (show q < acc.length by omega)]
        rw [e]; exact h2
      · subst hk
        have e : (acc ++ [maskOf acc o]).getD acc.length 0 = maskOf acc o := by simp [List.getD_eq_getElem?_getD]
        rw [e] at hb
        have ho' : o' = o := by
          have hl : acc.length < ops.length := by
            apply Nat.lt_of_not_le; intro hle
            rw [List.drop_eq_nil_of_le hle] at hd; cases hd
          have := List.getElem_cons_drop hl
          rw [hd] at this
          injection this with h1 _
          rw [nthOp_eq, List.getElem?_eq_getElem hl, h1] at ho
          cases ho; rfl
        subst ho'
        unfold maskOf at hb
        rcases mask_bit acc i (bound o') 0 hb with h0 | ⟨q, hq, h'⟩
        · simp at h0
        · refine ⟨q, hq, h'.imp_right fun h2 => ?_⟩
          have hql : q < acc.length := by
            apply Nat.lt_of_not_le; intro hle
            rw [List.getD_eq_getElem?_getD, List.getElem?_eq_none hle] at h2
            simp at h2
          refine ⟨hql, ?_⟩
          have e : (acc ++ [maskOf acc o']).getD q 0 = acc.getD q 0 := by simp [List.getD_eq_getElem?_getD, List.getElem?_append_left hql]
          rw [e]; exact h2
      · have e : (acc ++ [maskOf acc o]).getD k 0 = 0 := by rw [List.getD_eq_getElem?_getD, List.getElem?_eq_none (by simp; omega)]; rfl
        rw [e] at hb
        simp at hb
theorem masks_ok (ops : List Oper) : MaskOk ops (masks ops) := masksFrom_ok ops ops [] rfl fun k o i _ h => by simp at h
theorem mask_ready {ops : List Oper} {S : Nat → Bool} (hS : ∀ i o, S i = true → nthOp ops i = some o → ∀ j ∈ bound o, S j = true) (hops : ∀ i, S i = true → ∃ o, nthOp ops i = some o) : ∀ (k : Nat) (o : Oper), nthOp ops k = some o → (∀ j ∈ bound o, S j = true) → ∀ i, ((masks ops).getD k 0).testBit i = true → S i = true := by
  intro k
  induction k using Nat.strongRecOn with
  | _ k ih =>
    intro o ho hr i hb
    obtain ⟨q, hq, rfl | ⟨hlt, h⟩⟩ := masks_ok ops k o i ho hb
    · exact hr _ hq
    · obtain ⟨o', ho'⟩ := hops q (hr q hq)
      exact ih q hlt o' ho' (hS q o' (hr q hq) ho') i h
end Go.Proofs.Ytblikpgdepjhdaa
namespace Go.Proofs.Ytblikpgdepjhdaa
open Go.RowKit
set_option linter.unusedVariables false
variable {C : Ctx} {st st' st2 : St} {L L' : Nat → Loc} {a : Act} {w : World} {P : Program}
def Exec (P : Program) (o : Oper) (s s' : St) (fp wr : List Nat) : Prop :=
  ∀ st2, st2.n = s.n → (∀ x ∈ o.op.operands.toList, st2.ev x = s.ev x) → (∀ i, i ∈ fp ∨ i ∈ wr → st2.mem i = s.mem i ∧ st2.used i = s.used i) → ∀ K2 : St → Prop, K2 (over st2 s' o.dst wr) → stepW P o st2 K2
def Does (P : Program) (ops : List Oper) (o : Oper) (s s' : St) (fp wr : List Nat) : Prop :=
  match o.guard with
  | none => Exec P o s s' fp wr
  | some (j, want) => (∃ b, guardL ops s j = .v (.bool b) ∧ (b = want → Exec P o s s' fp wr) ∧ (b ≠ want → s' = s.put o.dst (.tup []) ∧ wr = [])) ∨ (guardL ops s j = .tup [] ∧ s' = s.put o.dst (.tup []) ∧ wr = [])
inductive Trail (P : Program) (ops : List Oper) : List Oper → St → List (List Nat × List Nat) → St → Prop
  | nil (s : St) : Trail P ops [] s [] s
  | cons (o : Oper) (rest : List Oper) (s s' e : St) (fp wr : List Nat) (fps : List (List Nat × List Nat)) (hf : Frame1 o s s' wr) (hd : Does P ops o s s' fp wr) (h : Trail P ops rest s' fps e) : Trail P ops (o :: rest) s ((fp, wr) :: fps) e
theorem trail_tr (ops : List Oper) : ∀ (l : List Oper) (s : St) (fps : List (List Nat × List Nat)) (e : St), Trail P ops l s fps e → fps.length = l.length ∧ ∃ f : Nat → St, f 0 = s ∧ f l.length = e ∧
    ∀ i o, nthOp l i = some o → Frame1 o (f i) (f (i + 1)) (fpAt fps i).2 ∧ Does P ops o (f i) (f (i + 1)) (fpAt fps i).1 (fpAt fps i).2
  | _, _, _, _, .nil s => ⟨rfl, fun _ => s, rfl, rfl, fun i o h => by simp [nthOp] at h⟩
  | _, _, _, _, .cons o rest s s' e fp wr fps hf hd h => by
    obtain ⟨hl, f, h0, he, hall⟩ := trail_tr ops rest s' fps e h
    refine ⟨by simp [hl], fun i => match i with | 0 => s | i + 1 => f i, rfl, he, fun i o' ho => ?_⟩
    cases i with
    | zero =>
      simp only [nthOp, Option.some.injEq] at ho
      subst ho
      show Frame1 o s (f 0) wr ∧ Does P ops o s (f 0) fp wr
      rw [h0]
      exact ⟨hf, hd⟩
    | succ i => exact hall i o' ho
def listedS (listed : Array Bool) (i : Nat) : Bool := listed.getD i false
def left (n : Nat) (S : Nat → Bool) : Nat := ((List.range n).filter fun i => !S i).length
theorem left_zero {n : Nat} {S : Nat → Bool} (h : left n S = 0) : ∀ k, k < n → S k = true := by
  intro k hk
  have : (List.range n).filter (fun i => !S i) = [] := List.eq_nil_of_length_eq_zero h
  rw [List.filter_eq_nil_iff] at this
  simpa using this k (List.mem_range.2 hk)
theorem filter_len (S S' : Nat → Bool) (i : Nat) (hi : S i = false) (hS' : ∀ k, S' k = (if k = i then true else S k)) : ∀ l : List Nat, l.Nodup → i ∈ l → (l.filter fun k => !S k).length = (l.filter fun k => !S' k).length + 1
  | [], _, h => by simp at h
  | x :: l, hn, h => by
    obtain ⟨hx, hl⟩ := List.nodup_cons.1 hn
    by_cases e : x = i
    · subst e
      have e1 : (l.filter fun k => !S k) = l.filter fun k => !S' k := List.filter_congr fun k hk => by
        have : k ≠ x := fun e => hx (e ▸ hk)
        rw [hS' k, if_neg this]
      simp [hi, hS' x, e1]
    · have hmem : i ∈ l := by
        rcases List.mem_cons.1 h with h1 | h1
        · exact absurd h1.symm e
        · exact h1
      have ih := filter_len S S' i hi hS' l hl hmem
      have e2 : S' x = S x := by rw [hS' x, if_neg e]
      simp only [List.filter_cons, e2]
      split <;> simp [ih]
theorem left_set {n : Nat} {S S' : Nat → Bool} {i : Nat} (hin : i < n) (hi : S i = false) (hS' : ∀ k, S' k = (if k = i then true else S k)) : left n S = left n S' + 1 :=
  filter_len S S' i hi hS' _ List.nodup_range (List.mem_range.2 hin)
theorem toList_nth (ops : Array Oper) (i : Nat) : nthOp ops.toList i = ops[i]? := by rw [nthOp_eq, Array.getElem?_toList]
theorem forPairs_get {n : Nat} {f : Nat → Nat → Bool} (h : forPairs n f = true) {i k : Nat} (hk : k < n) (hi : i < k) : f i k = true := by
  unfold forPairs at h
  exact List.all_eq_true.1 (List.all_eq_true.1 h k (List.mem_range.2 hk)) i (List.mem_range.2 hi)
theorem disj_get {l r : List Nat} (h : disj l r = true) {x : Nat} (hx : x ∈ l) : x ∉ r := by
  have := List.all_eq_true.1 h x hx
  simpa using this
theorem open_sound {ops : Array Oper} {Q : Exit → Act → World → Prop} (ht : textOk ops.toList = true) (f : Nat → St) (fps : List (List Nat × List Nat)) (hm : metOk ops.toList fps = true)
    (hall : ∀ i o, nthOp ops.toList i = some o → Frame1 o (f i) (f (i + 1)) (fpAt fps i).2 ∧ Does P ops.toList o (f i) (f (i + 1)) (fpAt fps i).1 (fpAt fps i).2)
    (hok : opsOk ops (f 0).n = true) (hP : C.P = P) (hQ : ∀ a w, Sim C (f ops.size) a w → Q .normal a w) :
    ∀ (fuel : Nat) (listed : Array Bool), listed.size = ops.size → left ops.size (listedS listed) = fuel → (∀ i o, listedS listed i = true → nthOp ops.toList i = some o → ∀ j ∈ bound o, listedS listed j = true) →
      ∀ a w, Sim C (mix ⟨f, fun i => (nthOp ops.toList i).bind (·.dst), fun i => (fpAt fps i).2⟩ (listedS listed) ops.size) a w → wpAny P .any ops Q fuel listed a w := by
  obtain ⟨hdown, hpairs⟩ : downwards ops.toList = true ∧ forPairs ops.toList.length (fun i k => match nthOp ops.toList i, nthOp ops.toList k with | some x, some y => !openPair (masks ops.toList) i k || apartO ops.toList x y | _, _ => true) = true := by
    unfold textOk textOkM at ht; rw [Bool.and_eq_true] at ht; exact ht
  generalize hT : (⟨f, fun i => (nthOp ops.toList i).bind (·.dst), fun i => (fpAt fps i).2⟩ : Tr) = T
  have hTs : T.s = f := by rw [← hT]
  have hTd : ∀ i, T.d i = (nthOp ops.toList i).bind (·.dst) := fun i => by rw [← hT]
  have hTw : ∀ i, T.wr i = (fpAt fps i).2 := fun i => by rw [← hT]
  have hsz : ops.toList.length = ops.size := by simp
  have hop : ∀ i, i < ops.size → ∃ o, nthOp ops.toList i = some o := fun i hi => ⟨ops[i], by rw [toList_nth]; simp [hi]⟩
  have hTok : TrOk T ops.size := by
    refine ⟨fun i hi => ?_, fun i hi x hx => ?_, fun i hi x hx => ?_, fun i hi x hx => ?_⟩
    all_goals obtain ⟨o, ho⟩ := hop i hi
    all_goals have hfr := (hall i o ho).1
    all_goals rw [hTs]
    · exact hfr.n
    · exact hfr.env x (by rw [hTd, ho] at hx; exact hx)
    · exact hfr.mem x (by rw [hTw] at hx; exact hx)
    · exact hfr.used x (by rw [hTw] at hx; exact hx)
  have hpair : ∀ i k x y, i < k → nthOp ops.toList i = some x → nthOp ops.toList k = some y → k < ops.size → openPair (masks ops.toList) i k = true → apartO ops.toList x y = true ∧ disj (T.wr i) ((fpAt fps k).1 ++ T.wr k) = true ∧ disj (T.wr k) (fpAt fps i).1 = true := by
    intro i k x y hik hx hy hk ho
    have h1 := forPairs_get hpairs (i := i) (k := k) (by rw [hsz]; exact hk) hik
    rw [hx, hy] at h1
    simp only [ho, Bool.not_true, Bool.false_or] at h1
    have h2 := List.all_eq_true.1 hm _ (opens_mem (by rw [hsz]; exact hk) hik ho)
    simp only [Bool.and_eq_true] at h2
    rw [hTw, hTw]
    exact ⟨h1, h2.1, h2.2⟩
  intro fuel
  induction fuel with
  | zero =>
    intro listed hls hleft hclosed a w hs
    have hallS := left_zero hleft
    refine ⟨?_, ?_⟩
    · unfold Region.ready
      rw [List.filter_eq_nil_iff]
      intro i hi
      have := hallS i (List.mem_range.1 hi)
      unfold listedS at this
      have hlt : i < listed.size := by rw [hls]; exact List.mem_range.1 hi
      simp only [Array.getD_eq_getD_getElem?, Array.getElem?_eq_getElem hlt, Option.getD_some] at this ⊢
      simp [this]
    · rw [mix_all hTok _ hallS, hTs] at hs
      exact hQ a w hs
  | succ fuel ih =>
    intro listed hls hleft hclosed a w hs
    refine ⟨fun hnil => ?_, fun i hi => ?_⟩
    · exfalso
      have hex : ∃ k, k < ops.size ∧ listedS listed k = false := by
        apply Classical.byContradiction
        intro hno
        have : left ops.size (listedS listed) = 0 := by
          unfold left
          rw [List.filter_eq_nil_iff.2 ?_]
          · rfl
          · intro k hk
            have : ¬ listedS listed k = false := fun h => hno ⟨k, List.mem_range.1 hk, h⟩
            simpa using this
        omega
      obtain ⟨k, ⟨hk, hkf⟩, hmin⟩ := exists_least hex
      obtain ⟨o, ho⟩ := hop k hk
      have hb : ∀ j ∈ bound o, listedS listed j = true := fun j hj => by
        have := List.all_eq_true.1 hdown k (List.mem_range.2 (by rw [hsz]; exact hk))
        rw [ho] at this
        have hjk : j < k := of_decide_eq_true (List.all_eq_true.1 this j hj)
        apply Classical.byContradiction
        intro hn
        have := hmin j ⟨by omega, by simpa using hn⟩
        omega
      have : k ∈ Region.ready .any ops listed := by
        unfold Region.ready
        rw [List.mem_filter]
        refine ⟨List.mem_range.2 hk, ?_⟩
        have hlt : k < listed.size := by rw [hls]; exact hk
        have e1 : listed.getD k true = false := by
          unfold listedS at hkf
          simp only [Array.getD_eq_getD_getElem?, Array.getElem?_eq_getElem hlt, Option.getD_some] at hkf ⊢
          exact hkf
        rw [toList_nth] at ho
        rw [ho, e1]
        simp only [Bool.not_false, Option.map_some, Option.getD_some, Bool.true_and]
        rw [Array.all_eq_true']
        intro e he
        by_cases hbi : Region.binds .any e = true
        · have := hb e.on (List.mem_filterMap.2 ⟨e, by simpa using he, by rw [if_pos hbi]⟩)
          unfold listedS at this
          simp [this]
        · simp [hbi]
      rw [hnil] at this
      simp at this
    · unfold Region.ready at hi
      rw [List.mem_filter] at hi
      obtain ⟨hin, hi⟩ := hi
      have hin := List.mem_range.1 hin
      obtain ⟨o, ho⟩ := hop i hin
      have hlt : i < listed.size := by rw [hls]; exact hin
      have ho' : ops[i]? = some o := by rw [← toList_nth]; exact ho
      rw [ho'] at hi
      simp only [Option.map_some, Option.getD_some, Bool.and_eq_true, Bool.not_eq_true'] at hi
      obtain ⟨hiS', hib⟩ := hi
      have hiS : listedS listed i = false := by
        unfold listedS
        simp only [Array.getD_eq_getD_getElem?, Array.getElem?_eq_getElem hlt, Option.getD_some] at hiS' ⊢
        exact hiS'
      have hbnd : ∀ j ∈ bound o, listedS listed j = true := fun j hj => by
        obtain ⟨e, he, hej⟩ := List.mem_filterMap.1 hj
        split at hej
        · rename_i hbi
          cases hej
          rw [Array.all_eq_true'] at hib
          have := hib e (by simpa using he)
          simpa [hbi, listedS] using this
        · cases hej
      have hlisted : ∀ k, listedS listed k = true → ∃ o, nthOp ops.toList k = some o := fun k hk => hop k (by
        unfold listedS at hk
        apply Nat.lt_of_not_le; intro hle
        simp [Array.getD_eq_getD_getElem?, Array.getElem?_eq_none (show listed.size ≤ k by omega)] at hk)
      have hahead : ∀ j, ((masks ops.toList).getD i 0).testBit j = true → listedS listed j = true := mask_ready hclosed hlisted i o ho hbnd
      have hbehind : ∀ k, listedS listed k = true → ¬ ((masks ops.toList).getD k 0).testBit i = true := fun k hk hmem => by
        obtain ⟨y, hy⟩ := hlisted k hk
        have := mask_ready hclosed hlisted k y hy (hclosed k y hk hy) i hmem
        rw [hiS] at this; cases this
      have hopen1 : ∀ k, k < i → listedS listed k = false → openPair (masks ops.toList) k i = true := fun k hk hkf => by
        unfold openPair
        rw [Bool.not_eq_true']
        apply Bool.eq_false_iff.2
        intro hmem
        have := hahead k hmem
        rw [hkf] at this; cases this
      have hopen2 : ∀ k, listedS listed k = true → openPair (masks ops.toList) i k = true := fun k hk => by
        unfold openPair
        rw [Bool.not_eq_true']
        exact Bool.eq_false_iff.2 (hbehind k hk)
      have hslot : ∀ x ∈ slotsOf ops.toList o, ∀ k, k < ops.size → T.d k = some x → (listedS listed k = true ↔ k < i) := by
        intro x hx k hk hd
        obtain ⟨y, hy⟩ := hop k hk
        rw [hTd, hy] at hd
        simp only [Option.bind_some] at hd
        rcases Nat.lt_trichotomy k i with h | h | h
        · refine ⟨fun _ => h, fun _ => ?_⟩
          apply Classical.byContradiction
          intro hn
          have hap := (hpair k i y o h hy ho hin (hopen1 k h (by simpa using hn))).1
          unfold apartO at hap
          simp only [Bool.and_eq_true, hd, Option.toList_some, List.all_cons, List.all_nil, Bool.and_true, Bool.not_eq_true', List.contains_eq_mem, decide_eq_false_iff_not] at hap
          exact hap.1.1 hx
        · subst h; simp [hiS]
        · refine ⟨fun hS => ?_, fun h' => by omega⟩
          have hap := (hpair i k o y h ho hy hk (hopen2 k hS)).1
          unfold apartO at hap
          simp only [Bool.and_eq_true, hd, Option.toList_some, List.all_cons, List.all_nil, Bool.and_true, Bool.not_eq_true', List.contains_eq_mem, decide_eq_false_iff_not] at hap
          exact absurd hx hap.2
      have hid : ∀ x, x ∈ (fpAt fps i).1 ∨ x ∈ (fpAt fps i).2 → ∀ k, k < ops.size → x ∈ T.wr k → (listedS listed k = true ↔ k < i) := by
        intro x hx k hk hd
        obtain ⟨y, hy⟩ := hop k hk
        rcases Nat.lt_trichotomy k i with h | h | h
        · refine ⟨fun _ => h, fun _ => ?_⟩
          apply Classical.byContradiction
          intro hn
          have hap := (hpair k i y o h hy ho hin (hopen1 k h (by simpa using hn))).2.1
          have := disj_get hap hd
          rw [hTw] at this
          exact this (List.mem_append.2 hx)
        · subst h; simp [hiS]
        · refine ⟨fun hS => ?_, fun h' => by omega⟩
          have hap := (hpair i k o y h ho hy hk (hopen2 k hS)).2
          rcases hx with hx | hx
          · exact absurd hx (disj_get hap.2 hd)
          · rw [← hTw] at hx
            exact absurd (List.mem_append.2 (.inr hd)) (disj_get hap.1 hx)
      have henv : ∀ x ∈ slotsOf ops.toList o, (mix T (listedS listed) ops.size).env x = (f i).env x := fun x hx => by
        rw [mix_env hTok (listedS listed) x i (hslot x hx) ops.size (Nat.le_refl _), hTs, Nat.min_eq_right (by omega)]
      have hev : ∀ x ∈ o.op.operands.toList, (mix T (listedS listed) ops.size).ev x = (f i).ev x := fun x hx => by
        cases x with
        | tmp t => exact henv t (List.mem_append.2 (.inl (List.mem_filterMap.2 ⟨_, hx, rfl⟩)))
        | _ => rfl
      have hmem : ∀ x, x ∈ (fpAt fps i).1 ∨ x ∈ (fpAt fps i).2 → (mix T (listedS listed) ops.size).mem x = (f i).mem x ∧ (mix T (listedS listed) ops.size).used x = (f i).used x := fun x hx => by
        have := mix_mem hTok (listedS listed) x i (hid x hx) ops.size (Nat.le_refl _)
        rw [hTs, Nat.min_eq_right (by omega)] at this
        exact this
      have hnn : (mix T (listedS listed) ops.size).n = (f i).n := by
        rw [mix_n hTok _ _ (Nat.le_refl _), ← s_n hTok i (by omega), hTs]
      have hS' : ∀ k, listedS (listed.setIfInBounds i true) k = (if k = i then true else listedS listed k) := fun k => by
        unfold listedS
        simp only [Array.getD_eq_getD_getElem?, Array.getElem?_setIfInBounds]
        by_cases e : k = i
        · subst e; simp [hlt]
        · rw [if_neg (fun h => e h.symm), if_neg e]
      have hnext : mix T (listedS (listed.setIfInBounds i true)) ops.size = over (mix T (listedS listed) ops.size) (f (i + 1)) o.dst (fpAt fps i).2 := by
        rw [mix_more (listedS listed) _ i hiS hS' ops.size (fun k hik hkn hk => ?_), if_pos hin, hTs, hTw, hTd, ho]
        · rfl
        · obtain ⟨y, hy⟩ := hop k hkn
          have hap := hpair i k o y hik ho hy hkn (hopen2 k hk)
          refine ⟨fun x hx hxk => ?_, fun x hx hxk => absurd (List.mem_append.2 (.inr hxk)) (disj_get hap.2.1 hx)⟩
          rw [hTd, ho] at hx
          rw [hTd, hy] at hxk
          simp only [Option.bind_some] at hx hxk
          have := hap.1
          unfold apartO at this
          simp [hx, hxk] at this
      have hnext_ok : ∀ a' w', Sim C (mix T (listedS (listed.setIfInBounds i true)) ops.size) a' w' → wpAny P .any ops Q fuel (listed.setIfInBounds i true) a' w' := fun a' w' hs' => by
        refine ih _ (by simpa using hls) ?_ (fun k y hk hy j hj => ?_) a' w' hs'
        · have := left_set hin hiS hS'
          omega
        · rw [hS'] at hk ⊢
          by_cases e : j = i
          · rw [if_pos e]
          · rw [if_neg e]
            by_cases e2 : k = i
            · subst e2; rw [ho] at hy; cases hy; exact hbnd j hj
            · rw [if_neg e2] at hk; exact hclosed k y hk hy j hj
      have hdst : ∀ d, o.dst = some d → d < (mix T (listedS listed) ops.size).n := by
        rw [mix_n hTok _ _ (Nat.le_refl _), hTs]
        exact opsOk_dst hok ho'
      have hdoes := (hall i o ho).2
      have exec : Exec P o (f i) (f (i + 1)) (fpAt fps i).1 (fpAt fps i).2 → o.wp P a w (wpAny P .any ops Q fuel (listed.setIfInBounds i true)) Q := fun hx =>
        step_sound (hx _ hnn hev hmem (fun s => s = mix T (listedS (listed.setIfInBounds i true)) ops.size) hnext.symm) C a w hP hs hdst _ Q fun st' a' w' _ h1 h2 => hnext_ok a' w' (h1 ▸ h2)
      unfold wpOp
      rw [ho']
      simp only
      unfold Does at hdoes
      split at hdoes
      · rename_i hg
        have : Region.wanted o (yielded ops a.tmps) = true := by simp [Region.wanted, hg]
        rw [if_pos this]
        exact .inl (exec hdoes)
      · rename_i j want hg
        have skip : f (i + 1) = (f i).put o.dst (.tup []) ∧ (fpAt fps i).2 = [] → Sim C (mix T (listedS (listed.setIfInBounds i true)) ops.size) (a.put o.dst undef) w := fun ⟨e1, e2⟩ => by
          obtain ⟨L, hs'⟩ := hs
          rw [hnext, e1, e2, over_put]
          exact ⟨L, hs'.put _ hdst (.tup _ _ rfl fun i hi => by simp at hi)⟩
        rcases hdoes with ⟨b, hb, h1, h2⟩ | ⟨hb, h2⟩
        case inr =>
          have hy : yielded ops a.tmps j = none := by
            unfold guardL at hb
            unfold yielded
            rw [toList_nth] at hb
            cases hj : ops[j]? with
            | none => rw [hj] at hb; cases hb
            | some oj =>
              rw [hj] at hb
              simp only [Option.bind_some]
              simp only at hb
              cases hd' : oj.dst with
              | none => rw [hd'] at hb; cases hb
              | some d =>
                rw [hd'] at hb
                simp only at hb
                have hsl : d ∈ slotsOf ops.toList o := List.mem_append.2 (.inr (by rw [hg]; simp only; rw [toList_nth, hj]; simp [hd']))
                obtain ⟨L, hs⟩ := hs
                have e := henv d hsl ▸ hs.env d
                rw [hb] at e
                generalize hv : a.tmps.getD d undef = v at e
                cases e with
                | tup _ vs hsz _ =>
                  rw [Array.getD_eq_getD_getElem?] at hv
                  cases ht : a.tmps[d]? with
                  | none => simp [ht]
                  | some v => rw [ht] at hv; simp at hv; subst hv; simp [ht]
          have : ¬ Region.wanted o (yielded ops a.tmps) = true := by simp [Region.wanted, hg, hy]
          rw [if_neg this]
          exact hnext_ok _ _ (skip h2)
        have hy : yielded ops a.tmps j = some b := by
          unfold guardL at hb
          unfold yielded
          rw [toList_nth] at hb
          cases hj : ops[j]? with
          | none => rw [hj] at hb; cases hb
          | some oj =>
            rw [hj] at hb
            simp only [Option.bind_some]
            simp only at hb
            cases hd' : oj.dst with
            | none => rw [hd'] at hb; cases hb
            | some d =>
              rw [hd'] at hb
              simp only at hb
              have hsl : d ∈ slotsOf ops.toList o := List.mem_append.2 (.inr (by rw [hg]; simp only; rw [toList_nth, hj]; simp [hd']))
              obtain ⟨L, hs⟩ := hs
              have e := rep_val (show RepA _ L w _ (.v (.bool b)) _ from hb ▸ (henv d hsl ▸ hs.env d))
              rw [Array.getD_eq_getD_getElem?] at e
              cases ht : a.tmps[d]? with
              | none => rw [ht] at e; simp [undef] at e
              | some v => rw [ht] at e; simp at e; subst e; simp [ht]
        by_cases hbw : b = want
        · subst hbw
          have : Region.wanted o (yielded ops a.tmps) = true := by simp [Region.wanted, hg, hy]
          rw [if_pos this]
          exact .inl (exec (h1 rfl))
        · have : ¬ Region.wanted o (yielded ops a.tmps) = true := by simp [Region.wanted, hg, hy, hbw]
          rw [if_neg this]
          exact hnext_ok _ _ (skip (h2 hbw))
theorem W_openT {id : Nat} {ops : Array Oper} {e : St} {fps : List (List Nat × List Nat)} {Q : Exit → St → Prop} (hmix : P.follows .mixedOrders = true) (hok : opsOk ops st.n = true) (ht : textOk ops.toList = true) (htr : Trail P ops.toList ops.toList st fps e) (hm : metOk ops.toList fps = true) (hK : Q .normal e) : W P (.region id ops true) st Q := by
  intro C a w hP hs
  refine wp_region_any hmix ?_
  obtain ⟨hl, f, h0, he, hall⟩ := trail_tr ops.toList _ _ _ _ htr
  obtain ⟨L, hs⟩ := hs
  have hs1 : Sim C st a { w with drawn := w.drawn + 1 } := ⟨L, hs.later rfl rfl rfl (Nat.le_refl _) fun _ _ => rfl⟩
  have hfn : ∀ i, i ≤ ops.size → (f i).n = st.n := fun i => by
    induction i with
    | zero => intro _; rw [h0]
    | succ i ih =>
      intro hi
      have := (hall i (ops[i]'(by omega)) (by rw [toList_nth]; simp [show i < ops.size by omega])).1.n
      rw [this]; exact ih (by omega)
  refine open_sound ht f fps hm hall (by rw [h0]; exact hok) hP (fun a' w' hs' => ?_) ops.size (Array.replicate ops.size false) (by simp) ?_ (fun i o hi => ?_) a _ ?_
  · rw [Array.length_toList] at he
    rw [he] at hs'
    refine ⟨e, ?_, hK, hs'⟩
    rw [← he]; exact hfn _ (Nat.le_refl _)
  · unfold left
    have : (List.range ops.size).filter (fun i => !listedS (Array.replicate ops.size false) i) = List.range ops.size := by
      rw [List.filter_eq_self]
      intro i hi
      unfold listedS
      simp [Array.getD_eq_getD_getElem?, List.mem_range.1 hi]
    rw [this, List.length_range]
  · exfalso
    unfold listedS at hi
    simp only [Array.getD_eq_getD_getElem?, Array.getElem?_replicate] at hi
    split at hi <;> simp at hi
  · have hS : ∀ i, listedS (Array.replicate ops.size false) i = false := fun i => by
      unfold listedS
      simp only [Array.getD_eq_getD_getElem?, Array.getElem?_replicate]
      split <;> rfl
    have : ∀ m, mix ⟨f, fun i => (nthOp ops.toList i).bind (·.dst), fun i => (fpAt fps i).2⟩ (listedS (Array.replicate ops.size false)) m = f 0 := fun m => by
      induction m with
      | zero => rfl
      | succ m ih => unfold mix; rw [hS m, if_neg (by simp), ih]
    rw [this, h0]
    exact hs1
end Go.Proofs.Ytblikpgdepjhdaa
