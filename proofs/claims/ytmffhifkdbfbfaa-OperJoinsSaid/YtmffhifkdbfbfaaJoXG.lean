/- Parts of the proof. -/
import Derived.Test.YtmffhifkdbfbfaaJoXD
import Derived.Test.YtmffhifkdbfbfaaJoAxTab
import Derived.Deep.Slices
import Derived.ChangeArms
import Derived.SizedLaws
namespace Go.Proofs.Ytmffhifkdbfbfaa
open Go.RowKit
set_option linter.unusedVariables false
section
variable (P : Program) (ty : TypeId) (k : IntKind) (a b : Int) (s t : ByteArray) (p q : Bool)
end
section
variable (ρ : Nat → Option Nat) (st : St) (ms : List (Nat × Blk))
end
theorem leM_some {ρ : Nat → Option Nat} {st : St} {ms : List (Nat × Blk)} {i j : Nat} {b' b : Blk} (h : ρ i = some j) (hb : st.mem j = some b) (hl : leB ρ st ms b b') : leM ρ st ms (i, b') := by
  unfold leM; rw [h]; exact ⟨b, hb, hl⟩
theorem leM_none {ρ : Nat → Option Nat} {st : St} {ms : List (Nat × Blk)} {i : Nat} {e k : Nat} (h : ρ i = none) (h0 : 0 < k) : leM ρ st ms (i, .row e k []) := by
  unfold leM; rw [h]; exact ⟨e, k, rfl, h0⟩
def distinctO : List (Option Nat) → Bool
  | [] => true
  | none :: l => distinctO l
  | some x :: l => !(l.contains (some x)) && distinctO l
theorem distinctO_get : ∀ (l : List (Option Nat)), distinctO l = true → ∀ (i j x : Nat), l[i]? = some (some x) → l[j]? = some (some x) → i = j
  | [], _, i, j, x, h1, _ => by simp at h1
  | none :: l, h, i, j, x, h1, h2 => by
    cases i with
    | zero => simp at h1
    | succ i => cases j with
      | zero => simp at h2
      | succ j => simp at h1 h2; rw [distinctO_get l h i j x h1 h2]
  | some y :: l, h, i, j, x, h1, h2 => by
    simp only [distinctO, Bool.and_eq_true, Bool.not_eq_true', List.contains_eq_mem, decide_eq_false_iff_not] at h
    cases i with
    | zero =>
      simp at h1
      subst h1
      cases j with
      | zero => rfl
      | succ j => simp at h2; exact absurd (List.mem_of_getElem? h2) h.1
    | succ i => cases j with
      | zero =>
        simp at h2
        subst h2
        simp at h1
        exact absurd (List.mem_of_getElem? h1) h.1
      | succ j => simp at h1 h2; rw [distinctO_get l h.2 i j x h1 h2]
theorem FitOk.fit {st : St} {es : List (Nat × A)} {ms : List (Nat × Blk)} {n : Nat} (hn : n = st.n) (hf : FitOk st es ms) : Fits st (mkSt n es ms) := by subst hn; exact fits (srcId_small st) hf
theorem FitOk.all {st : St} {es : List (Nat × A)} {ms : List (Nat × Blk)} {n : Nat} (hn : n = st.n) (hes : ∀ p ∈ es, leA (srcId st) st ms (st.env p.1) p.2) (hms : ∀ p ∈ ms, leM (srcId st) st ms p) (ids : List Nat) (hids : ms.map (·.1) = ids) (L : List (Option Nat)) (hL : ids.map (srcId st) = L) (hd : distinctO L = true) : Fits st (mkSt n es ms) := by
  refine FitOk.fit hn ⟨hes, hms, fun p hp q hq j h1 h2 => ?_⟩
  obtain ⟨i, hi, rfl⟩ := List.getElem_of_mem hp
  obtain ⟨i', hi', rfl⟩ := List.getElem_of_mem hq
  have e1 : L[i]? = some (some j) := by rw [← hL, ← hids]; simp [hi, h1]
  have e2 : L[i']? = some (some j) := by rw [← hL, ← hids]; simp [hi', h2]
  have := distinctO_get L hd i i' j e1 e2
  subst this
  rfl
theorem all_nil {α : Type} {p : α → Prop} : ∀ x ∈ ([] : List α), p x := fun x hx => by cases hx
theorem all_cons {α : Type} {p : α → Prop} {x : α} {l : List α} (h : p x) (hl : ∀ y ∈ l, p y) : ∀ y ∈ x :: l, p y := fun y hy => by
  rcases List.mem_cons.1 hy with rfl | hy
  · exact h
  · exact hl y hy
section
variable (n : Nat) (es : List (Nat × A)) (ms : List (Nat × Blk)) (args : List A) (t : Nat)
end
section
variable (n : Nat) (args : List A) (m : List (Nat × Blk)) (t : Nat)
end
end Go.Proofs.Ytmffhifkdbfbfaa
namespace Go.Proofs.Ytmffhifkdbfbfaa
open Go.ChangeShapes Go.WideShapes Go.Deep Go.RowKit
set_option linter.unusedVariables false
inductive Sh where
  | int (k : IntKind)
  | bool
  | str
  | sl (es : List Sh)
inductive TypedT : Sh → T → Prop
  | int (k : IntKind) (n : Int) (h : (Lit.int k n).wf = true) : TypedT (.int k) (.v (.int k n))
  | bool (b : Bool) : TypedT .bool (.v (.bool b))
  | str (s : ByteArray) (h : s.size ≤ reachBytes) : TypedT .str (.v (.string s))
  | sl (es : List Sh) (xs : List (List T)) (h : xs.length ≤ reachBytes) (hl : ∀ i (hi : i < xs.length), (xs[i]).length = es.length)
      (ht : ∀ i (hi : i < xs.length) j (hj : j < (xs[i]).length) (hj' : j < es.length), TypedT (es[j]) (xs[i][j])) : TypedT (.sl es) (.sl es.length xs)
structure TypedL (es : List Sh) (ts : List T) : Prop where
  len : ts.length = es.length
  at_ : ∀ j (hj : j < ts.length) (hj' : j < es.length), TypedT (es[j]) (ts[j])
section
variable {H : Type} {enc : TypeId × Value → H} {P : Program} {w : World}
end
end Go.Proofs.Ytmffhifkdbfbfaa
namespace Go.Proofs.Ytmffhifkdbfbfaa
open Go.RowKit
set_option linter.unusedVariables false
theorem law_of {P : Program} {w : World} {f : FuncId} {args : List A} (h : FnP P f args (.v (.bool true))) {vals : Array Value} (hsz : vals.size = args.length) (hargs : ∀ i (hi : i < args.length), RepF w (fun _ => False) (args[i]) (vals.getD i undef)) :
    Calls P f vals w fun e w' => e = .returned (.bool true) ∧ Below w.heap.size w w' := by
  refine (h.2 w (fun _ => False) vals (fun b hb => hb.elim) hsz hargs).mono ?_
  rintro e w' ⟨v, rfl, hb, hr⟩
  have : v = .bool true := rep_val hr
  subst this
  exact ⟨rfl, hb⟩
end Go.Proofs.Ytmffhifkdbfbfaa
