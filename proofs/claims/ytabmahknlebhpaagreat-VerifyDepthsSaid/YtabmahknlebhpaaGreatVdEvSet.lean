/- Parts of the proof. -/
import Derived.Test.YtabmahknlebhpaaGreatVdEvAct
namespace Go.Proofs.YtabmahknlebhpaaGreat
open Go.RowKit
set_option linter.unusedVariables false
structure VR where
  fn : FuncId
  rh : Rh
  lat : List (List Nat × Nat)
  hz : List (List Nat × Nat × List Nat)
  hm : List (List Nat × Nat × Nat)
def lb0 : Lb := ⟨0, [], ⟨[], []⟩⟩
def vr0 : VR := ⟨0, ⟨[], []⟩, [], [], []⟩
def nth16 {α : Type} (d : α) (l : List (List α)) (n : Nat) : α := (l.getD (n / 16) []).getD (n % 16) d
def latL : List (List Nat × Nat) → List Nat → Option Nat
  | [], _ => none
  | (p, l) :: r, q => match eqP p q with | true => some l | false => latL r q
def hzL : List (List Nat × Nat × List Nat) → List Nat → Nat → List Nat
  | [], _, _ => []
  | (p, i, z) :: r, q, j => match Nat.beq i j && eqP p q with | true => z | false => hzL r q j
def hmL : List (List Nat × Nat × Nat) → List Nat → Nat → Nat
  | [], _, _ => 0
  | (p, i, z) :: r, q, j => match Nat.beq i j && eqP p q with | true => z | false => hmL r q j
def tblF : List (FuncId × List Nat) → FuncId → List Nat
  | [], _ => []
  | (f, l) :: r, g => match Nat.beq f g with | true => l | false => tblF r g
def mkLT (lbs : List (List Lb)) (vs : List (List VR)) (hands : List Nat) : LT where
  lb := nth16 lb0 lbs
  fn := fun v => (nth16 vr0 vs v).fn
  rh := fun v => (nth16 vr0 vs v).rh
  lat := fun v => latL (nth16 vr0 vs v).lat
  hd := fun l => memN hands l
  hz := fun v => hzL (nth16 vr0 vs v).hz
  hm := fun v => hmL (nth16 vr0 vs v).hm
noncomputable def bumpH : Nat := (fun (_ : (((i : Unit) → Option Unit) → (i : Unit) → Option Unit) → (i : Unit) → Option Unit) => 0) (fixD (ι := Unit) (β := fun _ => Unit))
noncomputable def castT {α β : Type} (h : α = β) (x : α) : β := (fun (_ : Nat) => h ▸ x) bumpH
noncomputable def mkI {B : Tab} {t : LT} {α : Type} (l : Nat) (x : α) (h : α = Vars B (t.lb l).sh := by kernel_rfl) : Ix B t := ⟨l, castT h x⟩
noncomputable def outI {α β : Type} (o : Option α) (h : α = β := by kernel_rfl) : Option β := castT (congrArg Option h) o
theorem outq {B : Tab} {t : LT} {F : Gt B t → Gt B t} (hq : ∀ i, fixD F i = F (fixD F) i) (i : Ix B t) {β : Type} (h : Bx B t i = β) : outI (fixD F i) h = outI (F (fixD F) i) h := by rw [hq i]
section
variable {ι : Type} {β : ι → Type}
theorem fin_condG {γ : Type} (b : Bool) {F G : ((i : ι) → Option (β i)) → Option γ} (h1 : Fin1 F) (h2 : Fin1 G) : Fin1 fun g => cond b (F g) (G g) := by
  cases b
  · exact h2
  · exact h1
theorem run_of {N : ((i : ι) → Option (β i)) → (i : ι) → Option (β i)} {nm : (i : ι) → Option (β i)} (hf : ∀ i, Fin1 fun g => N g i) (he : ∀ i, nm i = N nm i) {i : ι} {r : β i} (h : fixD N i = some r) : nm i = some r := by
  obtain ⟨n, hn⟩ := fix_rec h
  clear h
  induction n generalizing i with
  | zero => cases hn
  | succ n ih =>
    rw [he i]
    exact fin_le (hf i) (fun j x hx => ih hx) hn
end
theorem fnio_of {P : Program} {f : FuncId} {args : List A} {r : A} (h : FnP P f args r) (hf : args.all flat2 = true) : FnIO P f args [] r [] := by
  refine ⟨h.1, fun C L vals hP hpin hs hsz hrep => ?_⟩
  have hX : ∀ b, Mut C (mst []) L b → b < C.w0.heap.size := by
    rintro b (hx | ⟨i, hi, _⟩)
    · exact hs.old b hx
    · cases hi
  refine (h.2 C.w0 (Mut C (mst []) L) vals hX hsz fun i hi => leF_rep (x := args[i]) ?_ (hrep i hi)).mono ?_
  · have h1 : flat2 (args[i]) = true := List.all_eq_true.1 hf _ (List.getElem_mem hi)
    generalize args[i] = x at h1
    cases x with
    | tup cs => cases h1
    | _ => exact leF2_refl h1
  · rintro e w' ⟨v, rfl, hb, hr⟩
    exact ⟨v, L, rfl, hs.later hb.os hb.tape hb.output hb.size hb.block, RepA.ext hr (Ext.refl _ _) (fun b _ h => h) (fun id hi => by simp at hi) (fun id hi => by simp at hi)⟩
structure Hand (B : Tab) (t : LT) (P : Program) where
  l : Nat
  f : Vars B (t.lb l).sh → Option (Res B (t.rh (t.lb l).v))
  ok : ∀ x r, f x = some r → MeanH P t l x r
def handL {B : Tab} {t : LT} {P : Program} : List (Hand B t P) → (i : Ix B t) → Option (Bx B t i)
  | [], _ => none
  | h :: hs, ⟨l, x⟩ => match Nat.decEq h.l l with
    | .isTrue e => (e ▸ h.f : Vars B (t.lb l).sh → Option (Res B (t.rh (t.lb l).v))) x
    | .isFalse _ => handL hs ⟨l, x⟩
theorem handL_ok {B : Tab} {t : LT} {P : Program} : ∀ (hs : List (Hand B t P)) (l : Nat) (x : Vars B (t.lb l).sh) (r : Res B (t.rh (t.lb l).v)), handL hs ⟨l, x⟩ = some r → MeanH P t l x r
  | [], l, x, r, h => by cases h
  | k :: hs, l, x, r, h => by
    unfold handL at h
    split at h
    · rename_i e _
      subst e
      exact k.ok x r h
    · exact handL_ok hs l x r h
noncomputable def mkHand {B : Tab} {t : LT} {P : Program} {α β : Type} (l : Nat) (f : α → Option β) (hα : Vars B (t.lb l).sh = α := by kernel_rfl) (hβ : β = Res B (t.rh (t.lb l).v) := by kernel_rfl) (ok : ∀ x r, f x = some r → MeanH P t l (castT hα.symm x) (castT hβ r)) : Hand B t P where
  l := l
  f := fun x => castT (congrArg Option hβ) (f (castT hα x))
  ok := fun x r h => by
    subst hα
    subst hβ
    exact ok x r h
theorem nth16_all {α : Type} {d : α} {l : List (List α)} {p : α → Bool} (hd : p d = true) (h : (l.all fun c => c.all p) = true) (n : Nat) : p (nth16 d l n) = true := by
  unfold nth16
  have key : ∀ (c : List α) (m : Nat), c.all p = true → p (c.getD m d) = true := fun c m hc => by
    rw [List.getD_eq_getElem?_getD]
    cases hm : c[m]? with
    | none => exact hd
    | some x => exact List.all_eq_true.1 hc x (List.mem_of_getElem? hm)
  refine key _ _ ?_
  rw [List.getD_eq_getElem?_getD]
  cases hm : l[n / 16]? with
  | none => rfl
  | some c => exact List.all_eq_true.1 h c (List.mem_of_getElem? hm)
theorem fns_of {P : Program} {lbs : List (List Lb)} {vs : List (List VR)} {hands : List Nat} (h0 : (P.funcs[vr0.fn]?).isSome = true) (h : (vs.all fun c => c.all fun r => (P.funcs[r.fn]?).isSome) = true) (l v : Nat) (_ : ((mkLT lbs vs hands).lb l).v = v) (_ : (mkLT lbs vs hands).hd l = false) : ∃ fn, P.funcs[(mkLT lbs vs hands).fn v]? = some fn :=
  Option.isSome_iff_exists.1 (nth16_all (p := fun r : VR => (P.funcs[r.fn]?).isSome) h0 h v)
theorem map_ok {α β : Type} {o : Option α} {f : α → β} {r : β} (h : o.map f = some r) : ∃ x, o = some x ∧ f x = r := by
  cases o with
  | none => cases h
  | some x => exact ⟨x, rfl, Option.some.inj h⟩
theorem law_fn {B : Tab} {P : Program} {t : LT} {g : Gt B t} (hm : Means P t g) {l : Nat} {α β : Type} {x : α} {hx : α = Vars B (t.lb l).sh} {hT : Res B (t.rh (t.lb l).v) = β} {r : β} (h : outI (g (mkI l x hx)) hT = some r)
    (hk : (eqP (t.lb l).rp [] && (slots 0 (t.lb l).sh.sl && (okFn P (t.fn (t.lb l).v) (argI (t.lb l).sh.sl (castT hx x).1).length && (Nat.ble (ntF P (t.fn (t.lb l).v)) 900 && (nilL (memI (t.lb l).sh (castT hx x)) &&
      (nilL (t.rh (t.lb l).v).bx && (nodupN ((RLrows (t.rh (t.lb l).v).rs (castT hT.symm r).1).map (·.1)) && ((t.rh (t.lb l).v).rs.all (noMapV B) && flat3 (resD (t.rh (t.lb l).v) (castT hT.symm r)).er)))))))) = true) :
    FnP P (t.fn (t.lb l).v) (argI (t.lb l).sh.sl (castT hx x).1) (resD (t.rh (t.lb l).v) (castT hT.symm r)).er := by
  subst hx
  subst hT
  simp only [Bool.and_eq_true] at hk
  obtain ⟨e1, e3, e4, e5, e6, k0, k1, k4, k2⟩ := hk
  have hr : g ⟨l, x⟩ = some r := h
  have hio := (hm l x r hr (eqP_eq e1)).elim (fun hm => mean_io hm e3 e4 e5) id
  have hrm : resM (t.rh (t.lb l).v) r = RLrows (t.rh (t.lb l).v).rs r.1 := resM_rows k0 r
  rw [show memI (t.lb l).sh x = [] from nilL_eq e6, hrm] at hio
  exact fnio_pure hio (resD_er k4 (hasR_mst k1)) k2
end Go.Proofs.YtabmahknlebhpaaGreat
