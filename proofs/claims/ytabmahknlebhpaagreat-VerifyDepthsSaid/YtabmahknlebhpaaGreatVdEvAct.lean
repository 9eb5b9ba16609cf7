/- Parts of the proof. -/
import Derived.Test.YtabmahknlebhpaaGreatVdEvM
namespace Go.Proofs.YtabmahknlebhpaaGreat
open Go.RowKit
set_option linter.unusedVariables false
variable {B : Tab} {P : Program} {t : LT}
def firstA (f : Nat → Act B) : List Nat → Act B
  | [] => .no
  | l :: ls => match f l with | .no => firstA f ls | a => a
theorem firstA_ok {o : Oper} {s : TS B} {f : Nat → Act B} (h : ∀ l, Sound P o s (f l)) : ∀ ls, Sound P o s (firstA f ls)
  | [] => trivial
  | l :: ls => by
    unfold firstA
    split
    · exact firstA_ok h ls
    · exact h l
def orA (a b : Act B) : Act B := match a with | .no => b | a => a
def unlessA (m : Nat) (a : Act B) : Act B := match m with | 1 => .no | _ => a
def callA (P : Program) (t : LT) (io pu lo : FuncId → List Nat) (g : (i : Ix B t) → Option (Bx B t i)) (m : Nat) (o : Oper) (s : TS B) (c : Call) (f : FuncId) : Act B :=
  orA (unlessA m (firstA (callL P t g o s c f) (lo f))) (orA (unlessA m (firstA (callIO P t g o s c f) (io f))) (firstA (callP P t g o s c f) (pu f)))
def actsA (P : Program) (t : LT) (dof : TypeId → Option D) (sw : List FuncId) (io pu lo : FuncId → List Nat) : Acts B t := fun g v rp i o s =>
  match o.op with
  | .call c => (match c.callee with
    | .value (.func f) => callA P t io pu lo g (t.hm v rp i) o s c f
    | .invoke x name => (match ifcOf P s x name with
      | some q => orA (swapV P sw o s x name c.args.toList) (orA (firstA (callM P t g o s c q.1 q.2) (io q.1)) (firstA (callMP P t g o s c q.1 q.2) (pu q.1)))
      | none => .no)
    | _ => evOp2 P dof o s)
  | _ => (match t.hm v rp i with | 0 => evOp2 P dof o s | m => evOpM P dof m o s)
theorem actsA_ok {dof : TypeId → Option D} {sw : List FuncId} (hsw : ∀ f, memN sw f = true → SwapFn P f) {io pu lo : FuncId → List Nat} {g : (i : Ix B t) → Option (Bx B t i)} (hm : Means P t g) (v : Nat) (rp : List Nat) (i : Nat) (o : Oper) (s : TS B) : Sound P o s (actsA P t dof sw io pu lo g v rp i o s) := by
  unfold actsA
  split
  · rename_i c ho
    split
    · rename_i f hc
      unfold callA
      have h1 := firstA_ok (P := P) (o := o) (s := s) (f := callIO P t g o s c f) (fun l => callIO_ok hm ho hc) (io f)
      have h2 := firstA_ok (P := P) (o := o) (s := s) (f := callP P t g o s c f) (fun l => callP_ok hm ho hc) (pu f)
      have h3 : ∀ m, Sound P o s (unlessA m (firstA (callIO P t g o s c f) (io f))) := fun m => by
        unfold unlessA
        split
        · trivial
        · exact h1
      have h4 : ∀ m, Sound P o s (unlessA m (firstA (callL P t g o s c f) (lo f))) := fun m => by
        unfold unlessA
        split
        · trivial
        · exact firstA_ok (fun l => callL_ok hm ho hc) (lo f)
      have hor : ∀ {a b : Act B}, Sound P o s a → Sound P o s b → Sound P o s (orA a b) := fun {a b} ha hb => by
        unfold orA
        split
        · exact hb
        · exact ha
      exact hor (h4 _) (hor (h3 _) h2)
    · rename_i x name hc
      split
      · rename_i q hq
        have hor : ∀ {a b : Act B}, Sound P o s a → Sound P o s b → Sound P o s (orA a b) := fun {a b} ha hb => by
          unfold orA
          split
          · exact hb
          · exact ha
        exact hor (swapV_ok hsw ho hc) (hor (firstA_ok (fun l => callM_ok hm ho hc hq) (io q.1)) (firstA_ok (fun l => callMP_ok hm ho hc hq) (pu q.1)))
      · trivial
    · exact evOp2_ok
  · split
    · exact evOp2_ok
    · exact evOpM_ok
theorem evA_means {hand : (i : Ix B t) → Option (Bx B t i)} {dof : TypeId → Option D} {sw : List FuncId} (hsw : ∀ f, memN sw f = true → SwapFn P f) {io pu lo : FuncId → List Nat} {fuel : Nat} (hmix : P.follows .mixedOrders = true) (hfn : ∀ l v, (t.lb l).v = v → t.hd l = false → ∃ fn, P.funcs[t.fn v]? = some fn) (hh : ∀ l x r, t.hd l = true → hand ⟨l, x⟩ = some r → MeanH P t l x r) :
    Means P t (fixD (EVB (B := B) P t hand (actsA P t dof sw io pu lo) fuel)) :=
  ev_means hmix hfn hh fun g hm v rp i o s => actsA_ok hsw hm v rp i o s
abbrev Gt (B : Tab) (t : LT) : Type := (i : Ix B t) → Option (Bx B t i)
theorem fin_cond {ρ : Type} (b : Bool) {F G : Gt B t → Option ρ} (h1 : Fin1 F) (h2 : Fin1 G) : Fin1 fun g => cond b (F g) (G g) := by
  cases b
  · exact h2
  · exact h1
def FinA (f : Gt B t → Act B) : Prop := ∀ {ρ : Type} (k : Gt B t → TS B → Nat → Option ρ), (∀ s lk, Fin1 fun g => k g s lk) → Fin1 fun g => runA (f g) (k g)
theorem finA_const : ∀ a : Act B, FinA (t := t) fun _ => a
  | .no => fun k hk => fin_const none
  | .st s lk => fun k hk => hk s _
  | .bnd x f => fun k hk => fin_bind (fin_const x) fun y => finA_const (f y) k hk
  | .cas b x y => fun k hk => fin_cond b (finA_const x k hk) (finA_const y k hk)
  | .lo s => fun k hk => hk s 2
  | .sem s => fun k hk => hk s 3
theorem finA_ask (i : Ix B t) (f : Bx B t i → Act B) : FinA (t := t) fun g => .bnd (g i) f := fun k hk => fin_bind (fin_ask i) fun y => finA_const (f y) k hk
def AskA (f : Gt B t → Act B) : Prop := (∃ a, ∀ g, f g = a) ∨ ∃ i k, ∀ g, f g = .bnd (g i) k
theorem ask_fin {f : Gt B t → Act B} (h : AskA f) : FinA f := by
  rcases h with ⟨a, ha⟩ | ⟨i, k, hk⟩
  · rw [show f = fun _ => a from funext ha]; exact finA_const a
  · rw [show f = fun g => .bnd (g i) k from funext hk]; exact finA_ask i k
theorem ask_first {f : Gt B t → Nat → Act B} (h : ∀ l, AskA fun g => f g l) : ∀ ls, AskA fun g => firstA (f g) ls
  | [] => .inl ⟨.no, fun _ => rfl⟩
  | l :: ls => by
    rcases h l with ⟨a, ha⟩ | ⟨i, k, hk⟩
    · cases a with
      | no =>
        rcases ask_first h ls with ⟨b, hb⟩ | ⟨i, k, hk⟩
        · exact .inl ⟨b, fun g => by show (match f g l with | .no => firstA (f g) ls | a => a) = b; rw [show f g l = _ from ha g]; exact hb g⟩
        · exact .inr ⟨i, k, fun g => by show (match f g l with | .no => firstA (f g) ls | a => a) = _; rw [show f g l = _ from ha g]; exact hk g⟩
      | st s lk => exact .inl ⟨.st s lk, fun g => by show (match f g l with | .no => firstA (f g) ls | a => a) = _; rw [show f g l = _ from ha g]⟩
      | bnd x k => exact .inl ⟨.bnd x k, fun g => by show (match f g l with | .no => firstA (f g) ls | a => a) = _; rw [show f g l = _ from ha g]⟩
      | lo s => exact .inl ⟨.lo s, fun g => by show (match f g l with | .no => firstA (f g) ls | a => a) = _; rw [show f g l = _ from ha g]⟩
      | sem s => exact .inl ⟨.sem s, fun g => by show (match f g l with | .no => firstA (f g) ls | a => a) = _; rw [show f g l = _ from ha g]⟩
      | cas b x y => exact .inl ⟨.cas b x y, fun g => by show (match f g l with | .no => firstA (f g) ls | a => a) = _; rw [show f g l = _ from ha g]⟩
    · exact .inr ⟨i, k, fun g => by show (match f g l with | .no => firstA (f g) ls | a => a) = _; rw [show f g l = _ from hk g]⟩
theorem ask_or {f f' : Gt B t → Act B} (h1 : AskA f) (h2 : AskA f') : AskA fun g => orA (f g) (f' g) := by
  rcases h1 with ⟨a, ha⟩ | ⟨i, k, hk⟩
  · cases a with
    | no =>
      rcases h2 with ⟨b, hb⟩ | ⟨i, k, hk⟩
      · exact .inl ⟨b, fun g => by show orA (f g) (f' g) = b; rw [ha g]; exact hb g⟩
      · exact .inr ⟨i, k, fun g => by show orA (f g) (f' g) = _; rw [ha g]; exact hk g⟩
    | st s lk => exact .inl ⟨.st s lk, fun g => by show orA (f g) (f' g) = _; rw [ha g]; rfl⟩
    | bnd x k => exact .inl ⟨.bnd x k, fun g => by show orA (f g) (f' g) = _; rw [ha g]; rfl⟩
    | lo s => exact .inl ⟨.lo s, fun g => by show orA (f g) (f' g) = _; rw [ha g]; rfl⟩
    | sem s => exact .inl ⟨.sem s, fun g => by show orA (f g) (f' g) = _; rw [ha g]; rfl⟩
    | cas b x y => exact .inl ⟨.cas b x y, fun g => by show orA (f g) (f' g) = _; rw [ha g]; rfl⟩
  · exact .inr ⟨i, k, fun g => by show orA (f g) (f' g) = _; rw [hk g]; rfl⟩
theorem ask_io (P : Program) (o : Oper) (s : TS B) (c : Call) (f : FuncId) (l : Nat) : AskA fun g => callIO P t g o s c f l := by
  unfold callIO callIO2
  split
  · split
    · split
      · split
        · exact .inr ⟨_, _, fun g => rfl⟩
        · exact .inl ⟨_, fun g => rfl⟩
      · exact .inl ⟨_, fun g => rfl⟩
    · exact .inl ⟨_, fun g => rfl⟩
  · exact .inl ⟨_, fun g => rfl⟩
theorem ask_m (P : Program) (o : Oper) (s : TS B) (c : Call) (f : FuncId) (rv : V2 B) (l : Nat) : AskA fun g => callM P t g o s c f rv l := by
  unfold callM callIO2
  split
  · split
    · split
      · split
        · exact .inr ⟨_, _, fun g => rfl⟩
        · exact .inl ⟨_, fun g => rfl⟩
      · exact .inl ⟨_, fun g => rfl⟩
    · exact .inl ⟨_, fun g => rfl⟩
  · exact .inl ⟨_, fun g => rfl⟩
theorem ask_mp (P : Program) (o : Oper) (s : TS B) (c : Call) (f : FuncId) (rv : V2 B) (l : Nat) : AskA fun g => callMP P t g o s c f rv l := by
  unfold callMP callP2
  repeat' split
  all_goals first
    | exact .inr ⟨_, _, fun g => rfl⟩
    | exact .inl ⟨_, fun g => rfl⟩
theorem ask_pu (P : Program) (o : Oper) (s : TS B) (c : Call) (f : FuncId) (l : Nat) : AskA fun g => callP P t g o s c f l := by
  unfold callP callP2
  repeat' split
  all_goals first
    | exact .inr ⟨_, _, fun g => rfl⟩
    | exact .inl ⟨_, fun g => rfl⟩
theorem ask_lo (P : Program) (o : Oper) (s : TS B) (c : Call) (f : FuncId) (l : Nat) : AskA fun g => callL P t g o s c f l := by
  unfold callL callL2
  repeat' split
  all_goals first
    | exact .inr ⟨_, _, fun g => rfl⟩
    | exact .inl ⟨_, fun g => rfl⟩
theorem ask_callA (P : Program) (io pu lo : FuncId → List Nat) (m : Nat) (o : Oper) (s : TS B) (c : Call) (f : FuncId) : AskA fun g => callA P t io pu lo g m o s c f := by
  have h1 : AskA fun g => unlessA m (firstA (callIO P t g o s c f) (io f)) := by
    unfold unlessA
    split
    · exact .inl ⟨_, fun g => rfl⟩
    · exact ask_first (f := fun g => callIO P t g o s c f) (fun l => ask_io P o s c f l) (io f)
  have h2 : AskA fun g => unlessA m (firstA (callL P t g o s c f) (lo f)) := by
    unfold unlessA
    split
    · exact .inl ⟨_, fun g => rfl⟩
    · exact ask_first (f := fun g => callL P t g o s c f) (fun l => ask_lo P o s c f l) (lo f)
  refine ask_or h2 ?_
  exact ask_or h1 (ask_first (f := fun g => callP P t g o s c f) (fun l => ask_pu P o s c f l) (pu f))
theorem fin_actsA (P : Program) (dof : TypeId → Option D) (sw : List FuncId) (io pu lo : FuncId → List Nat) (v : Nat) (rp : List Nat) (i : Nat) (o : Oper) (s : TS B) : FinA fun g => actsA P t dof sw io pu lo g v rp i o s := by
  unfold actsA
  split
  · split
    · exact ask_fin (ask_callA P io pu lo _ o s _ _)
    · split
      · exact ask_fin (ask_or (f := fun _ => swapV P sw o s _ _ _) (.inl ⟨_, fun _ => rfl⟩) (ask_or (ask_first (f := fun g => callM P t g o s _ _ _) (fun l => ask_m P o s _ _ _ l) _) (ask_first (f := fun g => callMP P t g o s _ _ _) (fun l => ask_mp P o s _ _ _ l) _)))
      · exact finA_const _
    · exact finA_const _
  · exact finA_const _
section
variable {act : Gt B t → List Nat → Nat → Oper → TS B → Act B}
theorem fin_step {ρ : Type} {act : Gt B t → Oper → TS B → Act B} (ha : ∀ o s, FinA fun g => act g o s) (dr : Bool) (fz : List Nat) (o : Oper) (s : TS B) {k : Gt B t → TS B → Nat → Option ρ} (hk : ∀ s m, Fin1 fun g => k g s m) : Fin1 fun g => evStep dr (act g) fz o s (k g) := by
  unfold evStep
  split
  · rename_i s1 _
    refine ha o s1 (fun g s' m => match !dr || (!Nat.beq m 3 && (keepsRows o s.er.st || !Nat.beq m 0)) with | true => k g s' m | false => none) fun s' m => ?_
    split
    · exact hk s' m
    · exact fin_const none
  · exact fin_const none
theorem fin_ops {ρ : Type} {act : Gt B t → Nat → Oper → TS B → Act B} (ha : ∀ i o s, FinA fun g => act g i o s) (dr : Bool) (hz : Nat → List Nat) (ops : List Oper) {k : Gt B t → TS B → Fps → Option ρ} (hk : ∀ s f, Fin1 fun g => k g s f) : ∀ (l : List Oper) (i : Nat) (s : TS B) (acc : Fps), Fin1 fun g => evOps dr hz (act g) ops i l s acc (k g)
  | [], i, s, acc => hk s acc
  | o :: rest, i, s, acc => by
    have go := fun s acc => fin_ops ha dr hz ops hk rest (i + 1) s acc
    unfold evOps
    split
    · exact fin_step (ha i) dr _ o s (k := fun g s' m => evOps dr hz (act g) ops (i + 1) rest s' _ (k g)) fun s' m => go s' _
    · split
      · exact fin_const none
      · split
        · refine fin_cond _ ?_ ?_
          · split
            · exact fin_step (ha i) dr _ o _ (k := fun g s' m => evOps dr hz (act g) ops (i + 1) rest s' _ (k g)) fun s' m => go s' _
            · exact go _ _
          · split
            · exact fin_step (ha i) dr _ o _ (k := fun g s' m => evOps dr hz (act g) ops (i + 1) rest s' _ (k g)) fun s' m => go s' _
            · exact go _ _
        · exact go _ _
        · exact fin_const none
theorem fin_reg {ρ : Type} {act : Gt B t → Nat → Oper → TS B → Act B} (ha : ∀ i o s, FinA fun g => act g i o s) (dr : Bool) (hz : Nat → List Nat) (ops : Array Oper) (s : TS B) {k : Gt B t → TS B → Option ρ} (hk : ∀ s, Fin1 fun g => k g s) : Fin1 fun g => evReg dr hz (act g) ops s (k g) := by
  unfold evReg
  split
  · exact fin_const none
  · split
    · refine fin_ops ha dr hz _ (k := fun g s' fps => match !dr || (textOk ops.toList && metOk ops.toList fps.reverse) with | true => k g s' | false => none) (fun s f => ?_) _ 0 _ []
      split
      · exact hk s
      · exact fin_const none
    · exact fin_const none
theorem fin_cast {a b : Nat} (h : a = b) {F : Gt B t → Option (Res B (t.rh a))} (hF : Fin1 F) : Fin1 fun g => castR h (F g) := by subst h; exact hF
theorem fin_goto (P : Program) (v l : Nat) (s : TS B) : Fin1 fun g => evGoto P t g v l s := by
  unfold evGoto
  split
  · rename_i h _
    split
    · exact fin_cast h (fin_ask _)
    · exact fin_const none
  · exact fin_const none
theorem fin_evM (P : Program) (ha : ∀ rp i o s, FinA fun g => act g rp i o s) (v : Nat) : ∀ (n : Nat) (m : Md) (s : TS B), Fin1 fun g => evM P t g (act g) v n m s
  | 0, m, s => fin_const none
  | n + 1, m, s => by
    have ih := fin_evM P ha v n
    cases m with
    | go rp =>
      unfold evM
      split
      · split
        · exact fin_goto P v _ s
        · exact fin_const none
      · exact ih _ _
    | inn rp =>
      unfold evM
      split
      · exact fin_reg (ha rp) _ _ _ s (k := fun g s' => evM P t g (act g) v n (.up rp .normal) s') fun s' => ih _ _
      · exact ih _ _
      · split
        · exact fin_cond _ (ih _ _) (ih _ _)
        · exact fin_const none
      · exact ih _ _
      · exact ih _ _
      · exact ih _ _
      · exact ih _ _
      · exact fin_const none
    | up rp e =>
      cases rp with
      | nil =>
        unfold evM
        split <;> exact fin_const _
      | cons i rp =>
        unfold evM
        repeat' split
        all_goals first
          | exact ih _ _
          | exact fin_goto P v _ s
          | exact fin_const none
end
theorem fin_EVB (P : Program) (hand : Gt B t) (dof : TypeId → Option D) (sw : List FuncId) (io pu lo : FuncId → List Nat) (fuel : Nat) (i : Ix B t) : Fin1 fun g => EVB P t hand (actsA P t dof sw io pu lo) fuel g i := by
  unfold EVB
  split
  · exact fin_const _
  · unfold evL
    split
    · exact fin_evM P (act := fun g => actsA P t dof sw io pu lo g (t.lb i.1).v) (fun rp i o s => fin_actsA P dof sw io pu lo _ rp i o s) _ fuel _ _
    · exact fin_evM P (act := fun g => actsA P t dof sw io pu lo g (t.lb i.1).v) (fun rp i o s => fin_actsA P dof sw io pu lo _ rp i o s) _ fuel _ _
end Go.Proofs.YtabmahknlebhpaaGreat
