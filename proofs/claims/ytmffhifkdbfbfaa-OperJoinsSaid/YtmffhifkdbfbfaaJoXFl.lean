/- Parts of the proof. -/
import Derived.Test.YtmffhifkdbfbfaaJoXH
import Derived.Laws.ComplexArith
import Derived.Laws.FloatArith
import Derived.Laws.Cover3
namespace Go.Proofs.Ytmffhifkdbfbfaa
open Go.RowKit
set_option linter.unusedVariables false
variable {P : Program}
abbrev aF (a : Nat) : A := .t (.v (.float .f64 a))
abbrev aC2 (a b : Nat) : A := .t (.v (.complex .f64 a b))
theorem val1_quiet {o : Oper} {x : Operand} (hL : opL o.op = [x]) {a r : Value} (hr : r.oneCell' = true) (h : ∀ (ρ : Operand → Value) (w : World), ρ x = a → (execOp ρ o).run P w = .ok (.value r) w) : Quiet P o [.t (.v a)] (.t (.v r)) := by
  intro w M ρ _ hl hrep
  have h0 := hrep 0 (by simp) (by rw [hL]; simp)
  simp only [hL] at h0
  exact ⟨r, w, h ρ w (rep_val h0), Below.refl _ _, .t _ _ (.v _ hr)⟩
theorem val2_quiet {o : Oper} {x y : Operand} (hL : opL o.op = [x, y]) {a b r : Value} (hr : r.oneCell' = true) (h : ∀ (ρ : Operand → Value) (w : World), ρ x = a → ρ y = b → (execOp ρ o).run P w = .ok (.value r) w) : Quiet P o [.t (.v a), .t (.v b)] (.t (.v r)) := by
  intro w M ρ _ hl hrep
  have h0 := hrep 0 (by simp) (by rw [hL]; simp)
  have h1 := hrep 1 (by simp) (by rw [hL]; simp)
  simp only [hL] at h0 h1
  exact ⟨r, w, h ρ w (rep_val h0) (rep_val h1), Below.refl _ _, .t _ _ (.v _ hr)⟩
theorem call1_run {o : Oper} {c : Call} {b : Builtin} (ho : o.op = .call c) (hc : c.callee = .builtin b) {x : Operand} (hxy : c.args = #[x]) (ρ : Operand → Value) (w : World) :
    ∃ cs, (execOp ρ o).run P w = (builtin b c.argTypes o.type cs #[ρ x]).run P w := by
  refine ⟨c.args.map (fun | .const _ => true | _ => false), ?_⟩
  unfold execOp
  simp only [ho, resolve, hc, Sem.run_bind, Sem.run_pure, Result.andThen_ok, invoke]
  rw [hxy, show (#[x] : Array Operand).map ρ = #[ρ x] by simp]
  have e : ∀ f g : Operand → Bool, (∀ z, f z = g z) → f = g := fun f g h => funext h
  refine congrArg (fun q => (builtin b c.argTypes o.type (Array.map q #[x]) #[ρ x]).run P w) (e _ _ fun z => ?_)
  cases z <;> rfl
theorem cvif_ob {o : Oper} {s d : TypeId} {x : Operand} {q : IntKind} {n : Int} (ho : o.op = .convert s d x) (hs : (P.underlying s).isSome = true) (hd : P.underlying d = some (.float .f64)) : Quiet P o [aI q n] (aF (floatOfInt .f64 n)) :=
  val1_quiet (x := x) (by rw [ho]; rfl) rfl fun ρ w h => by
    unfold execOp; simp only [ho, h, Sem.run_bind, run_convert_int_float w s d q .f64 n hs hd, Result.andThen_ok, Sem.run_pure]
theorem cvfi_ob {o : Oper} {s d : TypeId} {x : Operand} {a : Nat} {n : Int} (ho : o.op = .convert s d x) (hs : (P.underlying s).isSome = true) (hd : P.underlying d = some (.int .i64)) (h9 : floatToIntVal .f64 a .i64 = some n) : Quiet P o [aF a] (aI .i64 n) :=
  val1_quiet (x := x) (by rw [ho]; rfl) rfl fun ρ w h => by
    unfold execOp; simp only [ho, h, Sem.run_bind, run_convert_float_int w s d .f64 .i64 a n hs hd h9, Result.andThen_ok, Sem.run_pure]
theorem cplx_ob {o : Oper} {c : Call} {x y : Operand} {a b : Nat} (ho : o.op = .call c) (hc : c.callee = .builtin .complex) (hxy : c.args = #[x, y]) : Quiet P o [aF a, aF b] (aC2 a b) :=
  val2_quiet (x := x) (y := y) (by rw [ho]; simp [opL, hc, hxy]) rfl fun ρ w h1 h2 => by
    obtain ⟨cs, e⟩ := call2_run (P := P) ho hc hxy ρ w
    rw [e, h1, h2]
    show (do pure (Next.value (← Builtin.complex_ _ _ _))).run P w = _
    simp only [Sem.run_bind, run_complex, Result.andThen_ok, Sem.run_pure]
theorem real_ob {o : Oper} {c : Call} {x : Operand} {a b : Nat} (ho : o.op = .call c) (hc : c.callee = .builtin .real) (hxy : c.args = #[x]) : Quiet P o [aC2 a b] (aF a) :=
  val1_quiet (x := x) (by rw [ho]; simp [opL, hc, hxy]) rfl fun ρ w h1 => by
    obtain ⟨cs, e⟩ := call1_run (P := P) ho hc hxy ρ w
    rw [e, h1]
    show (do pure (Next.value (← Builtin.real_ _ _ _))).run P w = _
    simp only [Sem.run_bind, run_real, Result.andThen_ok, Sem.run_pure]
theorem imag_ob {o : Oper} {c : Call} {x : Operand} {a b : Nat} (ho : o.op = .call c) (hc : c.callee = .builtin .imag) (hxy : c.args = #[x]) : Quiet P o [aC2 a b] (aF b) :=
  val1_quiet (x := x) (by rw [ho]; simp [opL, hc, hxy]) rfl fun ρ w h1 => by
    obtain ⟨cs, e⟩ := call1_run (P := P) ho hc hxy ρ w
    rw [e, h1]
    show (do pure (Next.value (← Builtin.imag_ _ _ _))).run P w = _
    simp only [Sem.run_bind, run_imag, Result.andThen_ok, Sem.run_pure]
def cAdd (a b : Nat × Nat) : Option (Nat × Nat) := cSumBits .add .f64 a.1 a.2 b.1 b.2
def cSub (a b : Nat × Nat) : Option (Nat × Nat) := cSumBits .sub .f64 a.1 a.2 b.1 b.2
def cMul (a b : Nat × Nat) : Option (Nat × Nat) := cMulBits a.1 a.2 b.1 b.2
theorem guard_complex (op : BinOp) (t : TypeId) (x y : Operand) (k : FloatKind) (a b c d : Nat) (w : World) : (eqGuard op t x y (.complex k a b) (.complex k c d)).run P w = .ok () w := by
  cases op <;> simp [eqGuard]
theorem cop_ob {o : Oper} {op : BinOp} {t u : TypeId} {x y : Operand} {a b c d : Nat} {r : Nat × Nat} (ho : o.op = .binOp op t x y u)
    (h : ∀ w, (binOp op t (.complex .f64 a b) (.complex .f64 c d)).run P w = .ok (.complex .f64 r.1 r.2) w) : Quiet P o [aC2 a b, aC2 c d] (aC2 r.1 r.2) :=
  val2_quiet (x := x) (y := y) (by rw [ho]; rfl) rfl fun ρ w h1 h2 => by
    unfold execOp; simp only [ho, h1, h2, Sem.run_bind, guard_complex, h w, Result.andThen_ok, Sem.run_pure]
theorem cadd_ob {o : Oper} {t u : TypeId} {x y : Operand} {a b c d : Nat} {r : Nat × Nat} (ho : o.op = .binOp .add t x y u) (h : cAdd (a, b) (c, d) = some r) : Quiet P o [aC2 a b, aC2 c d] (aC2 r.1 r.2) := cop_ob ho fun w => run_complex_sum w .add (.inl rfl) t .f64 a b c d _ _ h
theorem csub_ob {o : Oper} {t u : TypeId} {x y : Operand} {a b c d : Nat} {r : Nat × Nat} (ho : o.op = .binOp .sub t x y u) (h : cSub (a, b) (c, d) = some r) : Quiet P o [aC2 a b, aC2 c d] (aC2 r.1 r.2) := cop_ob ho fun w => run_complex_sum w .sub (.inr rfl) t .f64 a b c d _ _ h
theorem cmul_ob {o : Oper} {t u : TypeId} {x y : Operand} {a b c d : Nat} {r : Nat × Nat} (ho : o.op = .binOp .mul t x y u) (h : cMul (a, b) (c, d) = some r) : Quiet P o [aC2 a b, aC2 c d] (aC2 r.1 r.2) := cop_ob ho fun w => run_complex_mul w t a b c d _ _ h
end Go.Proofs.Ytmffhifkdbfbfaa
