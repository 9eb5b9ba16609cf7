/- Parts of the proof. -/
import Derived.Test.YtmffhifkdbfbfaaJoXF
namespace Go.Proofs.Ytmffhifkdbfbfaa
open Go.RowKit
set_option linter.unusedVariables false
variable {P : Program}
def keepE (s : LS) : List Nat → List (Nat × A)
  | [] => []
  | t :: l => (t, lkE s.es t) :: keepE s l
def pickM (s : LS) : List (Nat × Option Blk) → List (Nat × Option Blk)
  | [] => []
  | (i, some b) :: l => (i, some b) :: pickM s l
  | (i, none) :: l => (i, getM s.ms i) :: pickM s l
def LS.e (s : LS) (nw : List (Nat × A)) (kp : List Nat) (mm : List (Nat × Option Blk)) : LS := ⟨s.n, nw ++ keepE s kp, pickM s mm⟩
abbrev q_ : Option Bool × List Nat × Orc := (none, [], .no)
abbrev k_ (i : Nat) : Nat × Option Blk := (i, none)
def qz : Nat → List (Option Bool × List Nat × Orc) → List (Option Bool × List Nat × Orc)
  | 0, l => l
  | n + 1, l => q_ :: qz n l
def c0 (G : List Nat) : CV := ⟨G, [], [], [], [], [], []⟩
def cR (l G : List Nat) : CV := ⟨G, [], [], [], l.map fun i => (i, i), [], []⟩
def cB (b l G : List Nat) : CV := ⟨G, [], b, [], l.map fun i => (i, i), [], []⟩
def cG (N : List (Nat × Nat × NilTo)) (B : List Nat) (M : List (Nat × Nat × NilTo)) (R : List (Nat × Nat)) (F : List Nat) (Z : List (Nat × Nat × Nat)) (G : List Nat) : CV := ⟨G, N, B, M, R, F, Z⟩
theorem W_z (hmix : P.follows .mixedOrders = true) {id : Nat} {dr : Bool} {ops : Array Oper} {y : Code} {s : LS} {Q : Exit → St → Prop} (nw : List (Nat × A)) (kp : List Nat) (mm : List (Nat × Option Blk)) (v : List Nat → CV)
    (qs : List (Option Bool × List Nat × Orc)) {obs : List Prop} (ho : AllP obs) (hx : regX P dr ops qs (v (nw.map (·.1) ++ kp)) s = some (obs, s.e nw kp mm)) (h : W P y (s.e nw kp mm).st Q) : W P (.seq (.region id ops dr) y) s.st Q :=
  W_seq (W_x hmix qs _ obs hx ho h)
theorem W_zl (hmix : P.follows .mixedOrders = true) {id : Nat} {dr : Bool} {ops : Array Oper} {s : LS} {Q : Exit → St → Prop} (nw : List (Nat × A)) (kp : List Nat) (mm : List (Nat × Option Blk)) (v : List Nat → CV)
    (qs : List (Option Bool × List Nat × Orc)) {obs : List Prop} (ho : AllP obs) (hx : regX P dr ops qs (v (nw.map (·.1) ++ kp)) s = some (obs, s.e nw kp mm)) (h : Q .normal (s.e nw kp mm).st) : W P (.region id ops dr) s.st Q :=
  W_x hmix qs _ obs hx ho h
section
variable {α : Type} {p : Prop} [Decidable p] {b : Bool} {X Y : Option α} {r : α} {G : Prop}
theorem if_c (h : (if p then X else Y) = some r) (ht : decide p = true → X = some r → G) (hf : decide p = false → Y = some r → G) : G :=
  (Bool.eq_false_or_eq_true (decide p)).elim (fun e => ht e (if_t h e)) (fun e => hf e (if_f h e))
theorem ib_c (h : (if b = true then X else Y) = some r) (ht : b = true → X = some r → G) (hf : b = false → Y = some r → G) : G :=
  (Bool.eq_false_or_eq_true b).elim (fun e => ht e (ib_t h e)) (fun e => hf e (ib_f h e))
variable {st : St} {c : Operand} {x y : Code} {Q : Exit → St → Prop}
theorem W_cd (h : (if p then X else Y) = some r) (hc : st.ev c = .v (.bool (decide p))) (ht : decide p = true → X = some r → W P x st Q) (hf : decide p = false → Y = some r → W P y st Q) : W P (.cond c x y) st Q :=
  W_cond _ hc (fun e => ht e (if_t h e)) (fun e => hf e (if_f h e))
theorem W_cdn (h : (if p then X else Y) = some r) (hc : st.ev c = .v (.bool (!decide p))) (hf : decide p = true → X = some r → W P y st Q) (ht : decide p = false → Y = some r → W P x st Q) : W P (.cond c x y) st Q :=
  W_cond _ hc (fun e => ht (bnot_t e) (if_f h (bnot_t e))) (fun e => hf (bnot_f e) (if_t h (bnot_f e)))
theorem W_cb (h : (if b = true then X else Y) = some r) (hc : st.ev c = .v (.bool b)) (ht : b = true → X = some r → W P x st Q) (hf : b = false → Y = some r → W P y st Q) : W P (.cond c x y) st Q :=
  W_cond _ hc (fun e => ht e (ib_t h e)) (fun e => hf e (ib_f h e))
theorem W_cbn (h : (if b = true then X else Y) = some r) (hc : st.ev c = .v (.bool (!b))) (hf : b = true → X = some r → W P y st Q) (ht : b = false → Y = some r → W P x st Q) : W P (.cond c x y) st Q :=
  W_cond _ hc (fun e => ht (bnot_t e) (ib_f h (bnot_t e))) (fun e => hf (bnot_f e) (ib_t h (bnot_f e)))
theorem W_ct {e : Bool} (he : e = true) (hc : st.ev c = .v (.bool e)) (h : W P x st Q) : W P (.cond c x y) st Q := W_cond e hc (fun _ => h) (fun e' => nomatch (he.symm.trans e'))
theorem W_cf {e : Bool} (he : e = false) (hc : st.ev c = .v (.bool e)) (h : W P y st Q) : W P (.cond c x y) st Q := W_cond e hc (fun e' => nomatch (he.symm.trans e')) (fun _ => h)
end
def rvF (P : Program) (f : FuncId) : List ResultVar := match P.funcs[f]? with | some fn => fn.results.toList | none => []
def ntF (P : Program) (f : FuncId) : Nat := match P.funcs[f]? with | some fn => fn.ntmps | none => 0
def okFn (P : Program) (f : FuncId) (n : Nat) : Bool := match P.funcs[f]? with | some fn => (match fn.body with | some _ => plainFn P f && Nat.ble n fn.ntmps | none => false) | none => false
def KR {ρ : Type} (P : Program) (f : FuncId) (enc : ρ → A) (r : ρ) (ex : Exit) (Q : Exit → St → Prop) : Prop := ∀ (ns : List (Nat × Nat × Nat)) (s : LS) (x : ρ), retX P ns (rvF P f) s = some (enc x) → x = r → Q ex s.st
def KRI {ρ : Type} (P : Program) (f : FuncId) (enc : ρ → A × List (Nat × Blk)) (r : ρ) (ex : Exit) (Q : Exit → St → Prop) : Prop := ∀ (v : CV) (s : LS) (x : ρ), retIOX P v (rvF P f) s = some (enc x) → x = r → Q ex s.st
theorem fn_pureZ {f : FuncId} {args : List A} {ρ : Type} {enc : ρ → A} {r : ρ} (hk : okFn P f args.length = true)
    (h : ∀ Q : Exit → St → Prop, KR P f enc r .ret Q → KR P f enc r .normal Q → W P (subC (bodyC P f) []) (LS.mk (ntF P f) (entE 0 args) []).st Q) : FnP P f args (enc r) := by
  unfold okFn at hk
  split at hk
  · rename_i fn hf
    split at hk
    · rename_i c hb
      simp only [Bool.and_eq_true] at hk
      refine fn_pureX hf hb hk.1 (Nat.le_of_ble_eq_true hk.2) ?_
      have h1 := h (retQ P fn (enc r)) (fun ns s x hx e => by subst e; refine ret_ok ns ?_; unfold rvF at hx; rw [hf] at hx; exact hx) (fun ns s x hx e => by subst e; refine ret_end ns ?_; unfold rvF at hx; rw [hf] at hx; exact hx)
      have e1 : subC (bodyC P f) [] = c := by unfold bodyC; rw [hf]; simp only [hb]; cases c <;> rfl
      have e2 : ntF P f = fn.ntmps := by unfold ntF; rw [hf]
      rw [e1, e2] at h1
      exact h1
    · cases hk
  · cases hk
theorem fn_ioZ {f : FuncId} {args : List A} {m : List (Nat × Blk)} {ρ : Type} {enc : ρ → A × List (Nat × Blk)} {r : ρ} (hk : okFn P f args.length = true) (h9 : Nat.ble (ntF P f) 900 = true)
    (h : ∀ Q : Exit → St → Prop, KRI P f enc r .ret Q → KRI P f enc r .normal Q → W P (subC (bodyC P f) []) (LS.mk (ntF P f) (entE 0 args) (someMs m)).st Q) : FnIO P f args m (enc r).1 (enc r).2 := by
  unfold okFn at hk
  split at hk
  · rename_i fn hf
    split at hk
    · rename_i c hb
      simp only [Bool.and_eq_true] at hk
      have e2 : ntF P f = fn.ntmps := by unfold ntF; rw [hf]
      rw [e2] at h9
      refine fn_ioX hf hb hk.1 (Nat.le_of_ble_eq_true hk.2) (Nat.le_of_ble_eq_true h9) ?_
      have h1 := h (retIO P fn (enc r).1 (enc r).2) (fun ns s x hx e => by subst e; refine retIO_ret ns ?_; unfold rvF at hx; rw [hf] at hx; exact hx) (fun ns s x hx e => by subst e; refine retIO_end ns ?_; unfold rvF at hx; rw [hf] at hx; exact hx)
      have e1 : subC (bodyC P f) [] = c := by unfold bodyC; rw [hf]; simp only [hb]; cases c <;> rfl
      rw [e1, e2] at h1
      exact h1
    · cases hk
  · cases hk
def KX {ι : Type} {β : ι → Type} (B : ((i : ι) → Option (β i)) → (i : ι) → Option (β i)) (n : Nat) (i : ι) (r : β i) (S : LS) (ex : Exit) (Q : Exit → St → Prop) : Prop := ∀ q, q < n → ∀ s : LS, recN B q i = some r → Fits s.st S.st → Q ex s.st
def KY {ρ : Type} (x : Option ρ) (r : ρ) (S : LS) (ex : Exit) (Q : Exit → St → Prop) : Prop := ∀ s : LS, x = some r → Fits s.st S.st → Q ex s.st
theorem oinj {α : Type} {x y : α} (h : some x = some y) : x = y := Option.some.inj h
end Go.Proofs.Ytmffhifkdbfbfaa
