/- Abstract execution: the arguments of a statement, whatever they are, as data. -/
import Derived.Test.YtblikpgdepjhdaaXD
import Derived.Test.YtblikpgdepjhdaaAxTab
import Derived.Deep.Slices
import Derived.ChangeArms
/-! Abstract execution: the rules by which it is reckoned. -/
namespace Go.Proofs.Ytblikpgdepjhdaa
open Go.RowKit
set_option linter.unusedVariables false
section
variable (P : Program) (ty : TypeId) (k : IntKind) (a b : Int) (s t : ByteArray) (p q : Bool)
@[go_sem] theorem bin_add : binF P .add ty (.int k a) (.int k b) = some (.int k (k.wrap (a + b))) := by simp [binF, binOp, semPure, Op.intArith]; rfl
@[go_sem] theorem bin_sub : binF P .sub ty (.int k a) (.int k b) = some (.int k (k.wrap (a - b))) := by simp [binF, binOp, semPure, Op.intArith]; rfl
@[go_sem] theorem bin_mul : binF P .mul ty (.int k a) (.int k b) = some (.int k (k.wrap (a * b))) := by simp [binF, binOp, semPure, Op.intArith]; rfl
@[go_sem] theorem bin_eql : binF P .eql ty (.int k a) (.int k b) = some (.bool (decide (a = b))) := by simp [binF, binOp, semPure, Op.intCmp]; rfl
@[go_sem] theorem bin_neq : binF P .neq ty (.int k a) (.int k b) = some (.bool (!decide (a = b))) := by simp [binF, binOp, semPure, Op.intCmp]; rfl
@[go_sem] theorem bin_lss : binF P .lss ty (.int k a) (.int k b) = some (.bool (decide (a < b))) := by simp [binF, binOp, semPure, Op.intCmp]; rfl
@[go_sem] theorem bin_leq : binF P .leq ty (.int k a) (.int k b) = some (.bool (decide (a ≤ b))) := by simp [binF, binOp, semPure, Op.intCmp]; rfl
@[go_sem] theorem bin_gtr : binF P .gtr ty (.int k a) (.int k b) = some (.bool (decide (b < a))) := by simp [binF, binOp, semPure, Op.intCmp]; rfl
@[go_sem] theorem bin_geq : binF P .geq ty (.int k a) (.int k b) = some (.bool (decide (b ≤ a))) := by simp [binF, binOp, semPure, Op.intCmp]; rfl
@[go_sem] theorem bin_quo (h : b ≠ 0) : binF P .quo ty (.int k a) (.int k b) = some (.int k (k.wrap (a.tdiv b))) := by simp [binF, binOp, semPure, Op.intDiv, h]; rfl
@[go_sem] theorem bin_rem (h : b ≠ 0) : binF P .rem ty (.int k a) (.int k b) = some (.int k (a.tmod b)) := by simp [binF, binOp, semPure, Op.intDiv, h]; rfl
@[go_sem] theorem bin_seql : binF P .eql ty (.string s) (.string t) = some (.bool (s.toList == t.toList)) := rfl
@[go_sem] theorem bin_sneq : binF P .neq ty (.string s) (.string t) = some (.bool (!(s.toList == t.toList))) := rfl
@[go_sem] theorem bin_slss : binF P .lss ty (.string s) (.string t) = some (.bool (Op.bytesLess s.toList t.toList)) := rfl
@[go_sem] theorem un_not : unF .not (.bool p) = some (.bool (!p)) := rfl
@[go_sem] theorem un_neg : unF .neg (.int k a) = some (.int k (k.wrap (0 - a))) := rfl
@[go_sem] theorem one_int : (Value.int k a).oneCell' = true := rfl
@[go_sem] theorem one_bool : (Value.bool p).oneCell' = true := rfl
@[go_sem] theorem one_str : (Value.string s).oneCell' = true := rfl
@[go_sem] theorem const_int : constA (.int k a) = .v (.int k a) := rfl
@[go_sem] theorem const_bool : constA (.bool p) = .v (.bool p) := rfl
@[go_sem] theorem const_str : constA (.string s) = .v (.string s) := rfl
@[go_sem] theorem const_nil : constA (.slice none 0 0) = .v (.slice none 0 0) := rfl
@[go_sem] theorem const_ptr (x : Option Addr) : constA (.pointer x) = .v (.pointer x) := rfl
@[go_sem] theorem pick_tt (x y : A) : pickA true x y = x := rfl
@[go_sem] theorem pick_ff (x y : A) : pickA false x y = y := rfl
@[go_sem] theorem pick_or : pickA p (.v (.bool true)) (.v (.bool q)) = .v (.bool (p || q)) := by cases p <;> rfl
@[go_sem] theorem pick_and : pickA p (.v (.bool q)) (.v (.bool false)) = .v (.bool (p && q)) := by cases p <;> rfl
end
@[congr] theorem guardThen_congr {P : Program} {b b' want : Bool} {o : Oper} {st : St} {R : St → Prop} (h : b = b') : guardThen P b want o st R = guardThen P b' want o st R := by rw [h]
@[congr] theorem AtIx_congr {xs xs' : List (List T)} {n n' : Int} {K : Nat → List T → Prop} (h : xs = xs') (h' : n = n') : AtIx xs n K = AtIx xs' n' K := by rw [h, h']
@[congr] theorem AtStr_congr {s s' : ByteArray} {n n' : Int} {K : UInt8 → Prop} (h : s = s') (h' : n = n') : AtStr s n K = AtStr s' n' K := by rw [h, h']
@[congr] theorem CallAny_congr {P : Program} {f : FuncId} {d d' : Option Nat} {bs bs' evs evs' : List A} {st : St} {K : St → Prop} (h : d = d') (h1 : bs = bs') (h2 : evs = evs') : CallAny P f d bs evs st K = CallAny P f d' bs' evs' st K := by rw [h, h1, h2]
@[congr] theorem W_congr {P : Program} {c : Code} {st : St} {Q : Exit → St → Prop} : W P c st Q = W P c st Q := rfl
@[go_sem ↓] theorem thenQ_normal (P : Program) (y : Code) (Q : Exit → St → Prop) (st : St) : thenQ P y Q .normal st = W P y st Q := rfl
@[go_sem ↓] theorem thenQ_ret (P : Program) (y : Code) (Q : Exit → St → Prop) (st : St) : thenQ P y Q .ret st = Q .ret st := rfl
@[go_sem ↓] theorem thenQ_exit (P : Program) (y : Code) (Q : Exit → St → Prop) (st : St) (i : Nat) : thenQ P y Q (.exit i) st = Q (.exit i) st := rfl
@[go_sem ↓] theorem blockQ_normal (i : Nat) (Q : Exit → St → Prop) (st : St) : blockQ i Q .normal st = Q .normal st := rfl
@[go_sem ↓] theorem blockQ_ret (i : Nat) (Q : Exit → St → Prop) (st : St) : blockQ i Q .ret st = Q .ret st := rfl
@[go_sem ↓] theorem blockQ_exit (i j : Nat) (Q : Exit → St → Prop) (st : St) : blockQ i Q (.exit j) st = if j = i then Q .normal st else Q (.exit j) st := rfl
section
variable (ρ : Nat → Option Nat) (st : St) (ms : List (Nat × Blk))
@[go_sem] theorem leA_dead (x : A) : leA ρ st ms x .dead = True := by cases x <;> rfl
@[go_sem] theorem leA_t (x y : T) : leA ρ st ms (.t x) (.t y) = LeT x y := rfl
@[go_sem] theorem leA_new (x : T) (i : Nat) : leA ρ st ms (.t x) (.ref i) = (x = .v (.slice none 0 0) ∧ ρ i = none ∧ ∃ e k, look ms i = some (.row e k [])) := rfl
@[go_sem] theorem leA_ref (j i : Nat) : leA ρ st ms (.ref j) (.ref i) = (ρ i = some j ∧ (look ms i).isSome = true) := rfl
@[go_sem] theorem leA_frz (j : Nat) (y : T) : leA ρ st ms (.ref j) (.t y) = (∃ e k xs, st.mem j = some (.row e k xs) ∧ LeT (.sl k xs) y ∧ ∀ p ∈ ms, ρ p.1 ≠ some j) := rfl
@[go_sem] theorem leA_ptr (j o i o' : Nat) : leA ρ st ms (.ptr j o) (.ptr i o') = (ρ i = some j ∧ o = o' ∧ (look ms i).isSome = true) := rfl
@[go_sem] theorem leA_rptr (j p q i p' q' : Nat) : leA ρ st ms (.rptr j p q) (.rptr i p' q') = (ρ i = some j ∧ p = p' ∧ q = q' ∧ (look ms i).isSome = true) := rfl
@[go_sem] theorem leA_fel (x y : List T) : leA ρ st ms (.fel x) (.fel y) = (x = y) := rfl
@[go_sem] theorem leA_agg (cs ds : List A) : leA ρ st ms (.agg cs) (.agg ds) = leCells ρ st ms cs ds := rfl
@[go_sem] theorem le1_t (x y : T) : le1 ρ st ms (.t x) (.t y) = LeT x y := rfl
@[go_sem] theorem le1_new (x : T) (i : Nat) : le1 ρ st ms (.t x) (.ref i) = (x = .v (.slice none 0 0) ∧ ρ i = none ∧ ∃ e k, look ms i = some (.row e k [])) := rfl
@[go_sem] theorem le1_ref (j i : Nat) : le1 ρ st ms (.ref j) (.ref i) = (ρ i = some j ∧ (look ms i).isSome = true) := rfl
@[go_sem] theorem le1_frz (j : Nat) (y : T) : le1 ρ st ms (.ref j) (.t y) = (∃ e k xs, st.mem j = some (.row e k xs) ∧ LeT (.sl k xs) y ∧ ∀ p ∈ ms, ρ p.1 ≠ some j) := rfl
@[go_sem] theorem le1_ptr (j o i o' : Nat) : le1 ρ st ms (.ptr j o) (.ptr i o') = (ρ i = some j ∧ o = o' ∧ (look ms i).isSome = true) := rfl
@[go_sem] theorem leCells_nil : leCells ρ st ms [] [] = True := rfl
@[go_sem] theorem leCells_cons (x y : A) (l r : List A) : leCells ρ st ms (x :: l) (y :: r) = (le1 ρ st ms x y ∧ leCells ρ st ms l r) := rfl
@[go_sem] theorem leB_box (ty ty' : TypeId) (cs ds : List A) : leB ρ st ms (.box ty cs) (.box ty' ds) = (ty = ty' ∧ leCells ρ st ms cs ds) := rfl
@[go_sem] theorem leB_row (e e' : TypeId) (k k' : Nat) (xs ys : List (List T)) : leB ρ st ms (.row e k xs) (.row e' k' ys) = (e = e' ∧ k = k' ∧ leRows xs ys) := rfl
@[go_sem] theorem leF_t (x y : T) : leF (.t x) (.t y) = LeT x y := rfl
@[go_sem] theorem leF_agg (cs ds : List A) : leF (.agg cs) (.agg ds) = leFs cs ds := rfl
@[go_sem] theorem leF_tup (cs ds : List A) : leF (.tup cs) (.tup ds) = leF2s cs ds := rfl
@[go_sem] theorem leF2_t (x y : T) : leF2 (.t x) (.t y) = LeT x y := rfl
@[go_sem] theorem leF2_agg (cs ds : List A) : leF2 (.agg cs) (.agg ds) = leFs cs ds := rfl
@[go_sem] theorem leF1_t (x y : T) : leF1 (.t x) (.t y) = LeT x y := rfl
@[go_sem] theorem leFs_nil : leFs [] [] = True := rfl
@[go_sem] theorem leFs_cons (x y : A) (l r : List A) : leFs (x :: l) (y :: r) = (leF1 x y ∧ leFs l r) := rfl
@[go_sem] theorem leF2s_nil : leF2s [] [] = True := rfl
@[go_sem] theorem leF2s_cons (x y : A) (l r : List A) : leF2s (x :: l) (y :: r) = (leF2 x y ∧ leF2s l r) := rfl
@[go_sem] theorem LeT_rfl (x : T) : LeT x x = True := eq_true (.refl x)
@[go_sem] theorem LeT_nil (k : Nat) : LeT (.v (.slice none 0 0)) (.sl k []) = True := eq_true (.nil k)
@[go_sem] theorem LeT_v (x y : Value) : LeT (.v x) (.v y) = (x = y) := propext ⟨fun h => by cases h; rfl, fun h => by rw [h]; exact .refl _⟩
@[go_sem] theorem leRows_rfl (xs : List (List T)) : leRows xs xs = True := eq_true (leRows_refl xs)
end
/-- A test. -/
theorem W_if {P : Program} {st : St} {c : Operand} {x y : Code} {Q : Exit → St → Prop} (h : match st.ev c with | .t (.v (.bool b)) => ifB b (W P x st Q) (W P y st Q) | _ => False) : W P (.cond c x y) st Q := by
  split at h
  · rename_i b hb; exact W_cond b hb h.1 h.2
  · exact h.elim
@[congr] theorem ifB_congr {b b' : Bool} {x y : Prop} (h : b = b') : ifB b x y = ifB b' x y := by rw [h]
@[go_sem] theorem ifB_true (x y : Prop) : ifB true x y = x := by simp [ifB]
@[go_sem] theorem ifB_false (x y : Prop) : ifB false x y = y := by simp [ifB]
@[go_sem ↓] theorem retQ_ret (P : Program) (fn : Func) (r : A) (st : St) : retQ P fn r .ret st = (match resA P st fn.results.toList with | some x => leF (arg3 st x) r | none => False) := by
  cases h : resA P st fn.results.toList <;> simp [retQ, h]
@[go_sem ↓] theorem retQ_normal (P : Program) (fn : Func) (r : A) (st : St) : retQ P fn r .normal st = (match resA P st fn.results.toList with | some x => leF (arg3 st x) r | none => False) := by
  cases h : resA P st fn.results.toList <;> simp [retQ, h]
@[go_sem] theorem resA_eq (P : Program) (st : St) (rs : List ResultVar) : resA P st rs = (match resL P st rs with | some [x] => some x | some l => some (.tup l) | none => none) := by
  unfold resA; split <;> simp_all
@[go_sem] theorem srcId_lt (st : St) (i : Nat) (h : i < 1000) : srcId st i = some i := if_pos h
theorem srcId_slot0 (st : St) (i t : Nat) (h1 : 1000 ≤ i) (h2 : i < 100000) (h3 : t = i - 1000) : srcId st i = src1 i (st.env t) := by
  rw [srcId, if_neg (Nat.not_lt.2 h1), if_pos h2, h3]
theorem srcId_cell0 (st : St) (i b c : Nat) (h1 : 100000 ≤ i) (h2 : b = (i - 100000) / 100) (h3 : c = (i - 100000) % 100) : srcId st i = srcC i c (st.mem b) := by
  rw [srcId, if_neg (Nat.not_lt.2 (Nat.le_trans (Nat.le_of_ble_eq_true rfl) h1)), if_neg (Nat.not_lt.2 h1), h2, h3]
@[go_sem] theorem srcId_s (st : St) (i : Nat) (h1 : 1000 ≤ i) (h2 : i < 100000) : srcId st i = src1 i (st.env (i - 1000)) := srcId_slot0 st i _ h1 h2 rfl
@[go_sem] theorem srcId_c (st : St) (i : Nat) (h1 : 100000 ≤ i) : srcId st i = srcC i ((i - 100000) % 100) (st.mem ((i - 100000) / 100)) := srcId_cell0 st i _ _ h1 rfl rfl
def slotOk (i t : Nat) : Bool := Nat.ble 1000 i && Nat.blt i 100000 && Nat.beq t (i - 1000)
def cellOk (i b c : Nat) : Bool := Nat.ble 100000 i && Nat.beq b ((i - 100000) / 100) && Nat.beq c ((i - 100000) % 100)
theorem srcId_slot (st : St) (i t : Nat) (h : slotOk i t = true) : srcId st i = src1 i (st.env t) := by
  simp only [slotOk, Bool.and_eq_true] at h
  exact srcId_slot0 st i t (Nat.le_of_ble_eq_true h.1.1) (Nat.lt_of_succ_le (Nat.le_of_ble_eq_true h.1.2)) (Nat.eq_of_beq_eq_true h.2)
theorem srcId_cell (st : St) (i b c : Nat) (h : cellOk i b c = true) : srcId st i = srcC i c (st.mem b) := by
  simp only [cellOk, Bool.and_eq_true] at h
  exact srcId_cell0 st i b c (Nat.le_of_ble_eq_true h.1.1) (Nat.eq_of_beq_eq_true h.1.2) (Nat.eq_of_beq_eq_true h.2)
theorem leM_some {ρ : Nat → Option Nat} {st : St} {ms : List (Nat × Blk)} {i j : Nat} {b' b : Blk} (h : ρ i = some j) (hb : st.mem j = some b) (hl : leB ρ st ms b b') : leM ρ st ms (i, b') := by
  unfold leM; rw [h]; exact ⟨b, hb, hl⟩
theorem leM_none {ρ : Nat → Option Nat} {st : St} {ms : List (Nat × Blk)} {i : Nat} {e k : Nat} (h : ρ i = none) (h0 : 0 < k) : leM ρ st ms (i, .row e k []) := by
  unfold leM; rw [h]; exact ⟨e, k, rfl, h0⟩
def distinctO : List (Option Nat) → Bool
  | [] => true
  | none :: l => distinctO l
  | some x :: l => !(l.contains (some x)) && distinctO l
theorem distinctO_get : ∀ (l : List (Option Nat)), distinctO l = true → ∀ (i j x : Nat), l[i]? = some (some x) → l[j]? = some (some x) → i = j
  | [], _, i, j, x, h1, _ => by simp at h1
  | none :: l, h, i, j, x, h1, h2 => by
    cases i with
    | zero => simp at h1
    | succ i => cases j with
      | zero => simp at h2
      | succ j => simp at h1 h2; rw [distinctO_get l h i j x h1 h2]
  | some y :: l, h, i, j, x, h1, h2 => by
    simp only [distinctO, Bool.and_eq_true, Bool.not_eq_true', List.contains_eq_mem, decide_eq_false_iff_not] at h
    cases i with
    | zero =>
      simp at h1
      subst h1
      cases j with
      | zero => rfl
      | succ j => simp at h2; exact absurd (List.mem_of_getElem? h2) h.1
    | succ i => cases j with
      | zero =>
        simp at h2
        subst h2
        simp at h1
        exact absurd (List.mem_of_getElem? h1) h.1
      | succ j => simp at h1 h2; rw [distinctO_get l h.2 i j x h1 h2]
theorem FitOk.fit {st : St} {es : List (Nat × A)} {ms : List (Nat × Blk)} {n : Nat} (hn : n = st.n) (hf : FitOk st es ms) : Fits st (mkSt n es ms) := by subst hn; exact fits (srcId_small st) hf
theorem FitOk.all {st : St} {es : List (Nat × A)} {ms : List (Nat × Blk)} {n : Nat} (hn : n = st.n) (hes : ∀ p ∈ es, leA (srcId st) st ms (st.env p.1) p.2) (hms : ∀ p ∈ ms, leM (srcId st) st ms p) (ids : List Nat) (hids : ms.map (·.1) = ids) (L : List (Option Nat)) (hL : ids.map (srcId st) = L) (hd : distinctO L = true) : Fits st (mkSt n es ms) := by
  refine FitOk.fit hn ⟨hes, hms, fun p hp q hq j h1 h2 => ?_⟩
  obtain ⟨i, hi, rfl⟩ := List.getElem_of_mem hp
  obtain ⟨i', hi', rfl⟩ := List.getElem_of_mem hq
  have e1 : L[i]? = some (some j) := by rw [← hL, ← hids]; simp [hi, h1]
  have e2 : L[i']? = some (some j) := by rw [← hL, ← hids]; simp [hi', h2]
  have := distinctO_get L hd i i' j e1 e2
  subst this
  rfl
theorem all_nil {α : Type} {p : α → Prop} : ∀ x ∈ ([] : List α), p x := fun x hx => by cases hx
theorem all_cons {α : Type} {p : α → Prop} {x : α} {l : List α} (h : p x) (hl : ∀ y ∈ l, p y) : ∀ y ∈ x :: l, p y := fun y hy => by
  rcases List.mem_cons.1 hy with rfl | hy
  · exact h
  · exact hl y hy
theorem map_nilO {st : St} : ([] : List Nat).map (srcId st) = [] := rfl
theorem map_consO {st : St} {p : Nat} {l : List Nat} {x : Option Nat} {r : List (Option Nat)} (h : srcId st p = x) (hl : l.map (srcId st) = r) : (p :: l).map (srcId st) = x :: r := by
  rw [List.map_cons, h, hl]
attribute [go_sem] resL res1 src1 srcC
@[go_sem ↓] theorem loopQ_normal {σ : Type} (inv : σ → Prop) (μ : σ → Nat) (s : σ → St) (x : σ) (Q : Exit → St → Prop) (st : St) : loopQ inv μ s x Q .normal st = (∃ x', inv x' ∧ μ x' < μ x ∧ Fits st (s x')) := rfl
@[go_sem ↓] theorem loopQ_ret {σ : Type} (inv : σ → Prop) (μ : σ → Nat) (s : σ → St) (x : σ) (Q : Exit → St → Prop) (st : St) : loopQ inv μ s x Q .ret st = Q .ret st := rfl
@[go_sem ↓] theorem loopQ_exit {σ : Type} (inv : σ → Prop) (μ : σ → Nat) (s : σ → St) (x : σ) (Q : Exit → St → Prop) (st : St) (i : Nat) : loopQ inv μ s x Q (.exit i) st = Q (.exit i) st := rfl
@[congr] theorem Fits_congr {st st' : St} : Fits st st' = Fits st st' := rfl
section
variable (n : Nat) (es : List (Nat × A)) (ms : List (Nat × Blk)) (args : List A) (t : Nat)
@[go_sem] theorem mk_n : (mkSt n es ms).n = n := rfl
@[go_sem] theorem mk_env : (mkSt n es ms).env t = (look es t).getD .dead := rfl
@[go_sem] theorem mk_mem : (mkSt n es ms).mem t = look ms t := rfl
@[go_sem] theorem mk_used : (mkSt n es ms).used t = (look ms t).isSome := rfl
@[go_sem] theorem entry_n : (entry n args).n = n := rfl
@[go_sem] theorem entry_env : (entry n args).env t = (args[t]?).getD .dead := rfl
@[go_sem] theorem entry_mem : (entry n args).mem t = none := rfl
@[go_sem] theorem entry_used : (entry n args).used t = false := rfl
end
section
variable (n : Nat) (args : List A) (m : List (Nat × Blk)) (t : Nat)
@[go_sem] theorem entryIO_n : (entryIO n args m).n = n := rfl
@[go_sem] theorem entryIO_env : (entryIO n args m).env t = (args[t]?).getD .dead := rfl
@[go_sem] theorem entryIO_mem : (entryIO n args m).mem t = look m t := rfl
@[go_sem] theorem entryIO_used : (entryIO n args m).used t = (look m t).isSome := rfl
end
@[congr] theorem FitR_congr {ρ : Nat → Option Nat} {st : St} {es : List (Nat × A)} {m : List (Nat × Blk)} : FitR ρ st es m = FitR ρ st es m := rfl
@[go_sem] theorem le3_tup (ρ : Nat → Option Nat) (st : St) (ms : List (Nat × Blk)) (cs ds : List A) : le3 ρ st ms (.tup cs) (.tup ds) = le3s ρ st ms cs ds := rfl
@[go_sem] theorem le3_t (ρ : Nat → Option Nat) (st : St) (ms : List (Nat × Blk)) (x y : T) : le3 ρ st ms (.t x) (.t y) = LeT x y := rfl
@[go_sem] theorem le3_agg (ρ : Nat → Option Nat) (st : St) (ms : List (Nat × Blk)) (cs ds : List A) : le3 ρ st ms (.agg cs) (.agg ds) = leCells ρ st ms cs ds := rfl
@[go_sem] theorem le3_ref (ρ : Nat → Option Nat) (st : St) (ms : List (Nat × Blk)) (j i : Nat) : le3 ρ st ms (.ref j) (.ref i) = (ρ i = some j ∧ (look ms i).isSome = true) := rfl
@[go_sem] theorem le3_frz (ρ : Nat → Option Nat) (st : St) (ms : List (Nat × Blk)) (j : Nat) (y : T) : le3 ρ st ms (.ref j) (.t y) = (∃ e k xs, st.mem j = some (.row e k xs) ∧ LeT (.sl k xs) y ∧ ∀ p ∈ ms, ρ p.1 ≠ some j) := rfl
@[go_sem] theorem le3_ptr (ρ : Nat → Option Nat) (st : St) (ms : List (Nat × Blk)) (j o i o' : Nat) : le3 ρ st ms (.ptr j o) (.ptr i o') = (ρ i = some j ∧ o = o' ∧ (look ms i).isSome = true) := rfl
@[go_sem] theorem le3s_nil (ρ : Nat → Option Nat) (st : St) (ms : List (Nat × Blk)) : le3s ρ st ms [] [] = True := rfl
@[go_sem] theorem le3s_cons (ρ : Nat → Option Nat) (st : St) (ms : List (Nat × Blk)) (x y : A) (l r : List A) : le3s ρ st ms (x :: l) (y :: r) = (le2 ρ st ms x y ∧ le3s ρ st ms l r) := rfl
@[go_sem] theorem le2_t (ρ : Nat → Option Nat) (st : St) (ms : List (Nat × Blk)) (x y : T) : le2 ρ st ms (.t x) (.t y) = LeT x y := rfl
@[go_sem] theorem le2_agg (ρ : Nat → Option Nat) (st : St) (ms : List (Nat × Blk)) (cs ds : List A) : le2 ρ st ms (.agg cs) (.agg ds) = leCells ρ st ms cs ds := rfl
@[go_sem] theorem le2_ref (ρ : Nat → Option Nat) (st : St) (ms : List (Nat × Blk)) (j i : Nat) : le2 ρ st ms (.ref j) (.ref i) = (ρ i = some j ∧ (look ms i).isSome = true) := rfl
@[go_sem] theorem le2_frz (ρ : Nat → Option Nat) (st : St) (ms : List (Nat × Blk)) (j : Nat) (y : T) : le2 ρ st ms (.ref j) (.t y) = (∃ e k xs, st.mem j = some (.row e k xs) ∧ LeT (.sl k xs) y ∧ ∀ p ∈ ms, ρ p.1 ≠ some j) := rfl
@[go_sem] theorem le2_ptr (ρ : Nat → Option Nat) (st : St) (ms : List (Nat × Blk)) (j o i o' : Nat) : le2 ρ st ms (.ptr j o) (.ptr i o') = (ρ i = some j ∧ o = o' ∧ (look ms i).isSome = true) := rfl
theorem IntKind.u64_id {n : Int} (h : 0 ≤ n) (h' : n < 18446744073709551616) : IntKind.u64.wrap n = n := by
  rw [IntKind.wrap_u64]; omega
theorem wrap64_id {n : Int} (h : -9223372036854775808 ≤ n) (h' : n ≤ 9223372036854775807) : IntKind.i64.wrap n = n := by
  rw [IntKind.wrap_i64]; omega
theorem wrapN {k : Nat} (j : Nat) (h : k + j ≤ 9223372036854775807) : IntKind.i64.wrap ((k : Int) + (j : Int)) = ((k + j : Nat) : Int) := by rw [wrap64_id (by omega) (by omega)]; omega
theorem wrap1 {k : Nat} (h : k + 1 ≤ 9223372036854775807) : IntKind.i64.wrap ((k : Int) + 1) = ((k + 1 : Nat) : Int) := wrapN 1 h
@[congr] theorem metOk_congr {ops : List Oper} {l l' : List (List Nat × List Nat)} (h : l = l') : metOk ops l = metOk ops l' := by rw [h]
@[go_sem] theorem ifB_beq_true (b : Bool) (x y : Prop) : ifB (b == true) x y = ifB b x y := by cases b <;> rfl
@[go_sem] theorem ifB_beq_false (b : Bool) (x y : Prop) : ifB (b == false) x y = ifB b y x := by cases b <;> simp [ifB]
attribute [go_sem ↓] runM runD stepM
attribute [go_sem] fpOf wrOf opL ids1 ids2 ids3 keepsRows
attribute [go_sem] nilCmp
attribute [go_sem] St.ev St.put St.new St.setm St.del upd cellsOf takeCells peek asList fillA binA binB convA subA fieldA isPtr lenA cellT cellsT partsT arg1 arg2 arg3 flat1 flat2 scal1 scal2 scal3 refs1 refs2 nthOp guardL look guard_tt guard_ff guard_tf guard_ft St.frzs
attribute [go_sem] ti1 tk1 ti2 tk2 ti3 tk3 ti4 tk4 ti5 tk5 ti6 tk6 ti7 tk7 ti8 tk8 ti9 tk9 ti10 tk10 ti11 tk11 ti12 tk12 ti13 tk13 ti14 tk14 ti15 tk15 ti16 tk16 ti17 tk17 ti18 tk18 ti19 tk19 ti20 tk20 ti21 tk21 ti22 tk22 ti23 tk23 ti24 tk24 ti25 tk25 ti26 tk26 ti27 tk27 ti28 tk28 ti29 tk29 ti31 tk31 ti32 tk32 ti33 tk33 ti35 tk35 ti36 tk36 ti37 tk37 ti38 tk38 ti39 tk39 ti40 tk40 ti41 tk41 ti42 tk42 ti44 tk44 ti45 tk45 ti46 tk46 ti47 tk47 ti48 tk48 ti49 tk49 ti50 tk50 ti52 tk52 ti53 tk53 ti54 tk54 ti56 tk56 ti57 tk57 ti58 tk58 ti60 tk60 ti62 tk62 ti63 tk63 ti64 tk64 ti65 tk65 ti66 tk66 ti67 tk67 ti68 tk68 ti69 tk69 ti70 tk70 ti71 tk71 ti72 tk72 ti73 tk73 ti74 tk74 ti75 tk75 ti76 tk76 ti78 tk78 ti79 tk79 ti80 tk80 ti82 tk82 ti84 tk84 ti86 tk86 ti87 tk87 ti88 tk88 ti89 tk89 ti90 tk90 ti91 tk91 ti92 tk92 ti93 tk93 ti94 tk94 ti96 tk96 ti97 tk97 ti99 tk99 ti100 tk100 ti102 tk102 ti103 tk103 ti104 tk104 ti105 tk105 ti106 tk106 ti107 tk107 ti108 tk108 ti109 tk109 ti110 tk110 ti111 tk111 ti112 tk112 ti113 tk113 ti114 tk114 ti115 tk115 ti116 tk116 ti117 tk117
end Go.Proofs.Ytblikpgdepjhdaa
/-! Abstract execution: the arguments of a statement, whatever they are, as data. -/
namespace Go.Proofs.Ytblikpgdepjhdaa
open Go.ChangeShapes Go.WideShapes Go.Deep Go.RowKit
set_option linter.unusedVariables false

/-- The shape of a cell. -/
inductive Sh where
  | int (k : IntKind)
  | bool
  | str
  | sl (es : List Sh)
def shFs (P : Program) (sh : TypeId → Option (List Sh)) : Nat → List Field → Option (List Sh)
  | _, [] => some []
  | off, f :: rest => match sh f.type with
    | some es => if f.offset = off ∧ P.cellsOf f.type = es.length then (shFs P sh (off + es.length) rest).map (es ++ ·) else none
    | none => none
/-- The shapes of a type's cells. -/
def shOf (P : Program) : Nat → TypeId → Option (List Sh)
  | 0, _ => none
  | n + 1, t => match P.underlying t with
    | some (.int k) => some [.int k]
    | some .bool => some [.bool]
    | some .string => some [.str]
    | some (.slice e) => match shOf P n e with
      | some es => if P.cellsOf e = es.length ∧ 0 < es.length then some [.sl es] else none
      | none => none
    | some (.struct fs) => match shFs P (shOf P n) 0 fs.toList with
      | some es => if P.cellsOf t = es.length then some es else none
      | none => none
    | _ => none
inductive TypedT : Sh → T → Prop
  | int (k : IntKind) (n : Int) (h : (Lit.int k n).wf = true) : TypedT (.int k) (.v (.int k n))
  | bool (b : Bool) : TypedT .bool (.v (.bool b))
  | str (s : ByteArray) (h : s.size ≤ maxLen) : TypedT .str (.v (.string s))
  | sl (es : List Sh) (xs : List (List T)) (h : xs.length ≤ maxLen) (hl : ∀ i (hi : i < xs.length), (xs[i]).length = es.length)
      (ht : ∀ i (hi : i < xs.length) j (hj : j < (xs[i]).length) (hj' : j < es.length), TypedT (es[j]) (xs[i][j])) : TypedT (.sl es) (.sl es.length xs)
structure TypedL (es : List Sh) (ts : List T) : Prop where
  len : ts.length = es.length
  at_ : ∀ j (hj : j < ts.length) (hj' : j < es.length), TypedT (es[j]) (ts[j])
def RepL (w : World) (ts : List T) (cs : List Value) : Prop := ts.length = cs.length ∧ ∀ j (hj : j < ts.length) (hj' : j < cs.length), RepT w (fun _ => False) (ts[j]) (cs[j])
theorem typed_one {e : Sh} {t : T} (h : TypedT e t) : TypedL [e] [t] := ⟨rfl, fun j hj hj' => by
  have : j = 0 := by simp at hj; omega
  subst this; exact h⟩
theorem rep_one {w : World} {t : T} {v : Value} (h : RepT w (fun _ => False) t v) : RepL w [t] [v] := ⟨rfl, fun j hj hj' => by
  have : j = 0 := by simp at hj; omega
  subst this; exact h⟩
theorem typed_append {es fs : List Sh} {ts us : List T} (h : TypedL es ts) (k : TypedL fs us) : TypedL (es ++ fs) (ts ++ us) := by
  refine ⟨by simp [h.len, k.len], fun j hj hj' => ?_⟩
  by_cases hlt : j < ts.length
  · rw [List.getElem_append_left hlt, List.getElem_append_left (by rw [← h.len]; exact hlt)]
    exact h.at_ j hlt _
  · have hl := h.len
    rw [List.getElem_append_right (by omega), List.getElem_append_right (by omega)]
    have e : j - ts.length = j - es.length := by omega
    simp only [← e]
    exact k.at_ (j - ts.length) (by simp at hj; omega) _
theorem repL_append {w : World} {ts us : List T} {cs ds : List Value} (h : RepL w ts cs) (k : RepL w us ds) : RepL w (ts ++ us) (cs ++ ds) := by
  refine ⟨by simp [h.1, k.1], fun j hj hj' => ?_⟩
  have hl := h.1
  by_cases hlt : j < ts.length
  · rw [List.getElem_append_left hlt, List.getElem_append_left (by omega)]
    exact h.2 j hlt _
  · rw [List.getElem_append_right (by omega), List.getElem_append_right (by omega)]
    have e : j - ts.length = j - cs.length := by omega
    simp only [← e]
    exact k.2 (j - ts.length) (by simp at hj; omega) _
theorem spotNone {w : World} {a : Addr} {v : Value} (h : w.cell? (a.add 0) = some v) : a = ⟨a.block, a.off, none⟩ := by
  obtain ⟨b, o, sp⟩ := a
  cases sp with
  | none => rfl
  | some k =>
    exfalso
    unfold Addr.add at h
    rw [if_pos rfl] at h
    unfold World.cell? at h
    split at h <;> simp_all
theorem addNone {w : World} {b o n : Nat} {v : Value} (h : w.cell? ((⟨b, o, none⟩ : Addr).add n) = some v) : b < w.heap.size ∧ w.cell? ⟨b, o + n, none⟩ = some v := by
  have hadd : (⟨b, o, none⟩ : Addr).add n = ⟨b, o + n, none⟩ := by unfold Addr.add; split <;> simp_all
  rw [hadd] at h
  exact ⟨World.block_lt_of_cell? w ⟨b, o + n, none⟩ h, h⟩
section
variable {H : Type} {enc : TypeId × Value → H} {P : Program} {w : World}
theorem open_fs {sh : TypeId → Option (List Sh)} {n : Nat} (cs : List Value) (ih : ∀ t es cs x, sh t = some es → DataW.trod enc P w 0 (fun _ => true) true n t cs = some x → cs.length = P.cellsOf t → ∃ ts, TypedL es ts ∧ RepL w ts cs) :
    ∀ (l : List Field) (off : Nat) (es : List Sh), shFs P sh off l = some es → off + es.length ≤ cs.length → (∀ f ∈ l, ∃ x, DataW.trod enc P w 0 (fun _ => true) true n f.type ((cs.drop f.offset).take (P.cellsOf f.type)) = some x) →
      ∃ ts, TypedL es ts ∧ RepL w ts ((cs.drop off).take es.length)
  | [], off, es, h, hle, _ => by
    simp only [shFs, Option.some.injEq] at h
    subst h
    exact ⟨[], ⟨rfl, fun j hj => by simp at hj⟩, by simp [RepL]⟩
  | f :: rest, off, es, h, hle, hx => by
    simp only [shFs] at h
    split at h
    · rename_i e1 he1
      split at h
      · rename_i hc
        obtain ⟨rfl, hcl⟩ := hc
        obtain ⟨e2, h2, rfl⟩ := Option.map_eq_some_iff.1 h
        simp only [List.length_append] at hle
        obtain ⟨x, hx1⟩ := hx f (by simp)
        obtain ⟨t1, ht1, hr1⟩ := ih _ _ _ _ he1 hx1 (by simp; omega)
        obtain ⟨t2, ht2, hr2⟩ := open_fs cs ih rest _ e2 h2 (by omega) (fun g hg => hx g (by simp [hg]))
        refine ⟨t1 ++ t2, typed_append ht1 ht2, ?_⟩
        rw [hcl] at hr1
        have : (cs.drop f.offset).take (e1 ++ e2).length = (cs.drop f.offset).take e1.length ++ (cs.drop (f.offset + e1.length)).take e2.length := by
          rw [List.length_append, List.take_add, List.drop_drop]
        rw [this]
        exact repL_append hr1 hr2
      · cases h
    · cases h
theorem open_ty : ∀ (n fuel : Nat) (t : TypeId) (es : List Sh) (cs : List Value) (x : DataW H × List MemPlace), shOf P n t = some es → DataW.trod enc P w 0 (fun _ => true) true fuel t cs = some x → cs.length = P.cellsOf t → ∃ ts, TypedL es ts ∧ RepL w ts cs
  | 0, fuel, t, es, cs, x, h, _, _ => by cases h
  | n + 1, fuel, t, es, cs, x, h, hx, hcs => by
    simp only [shOf] at h
    split at h
    · rename_i k ht
      cases h
      obtain ⟨z, rfl, _, hw⟩ := DataW.trod_int ht hx
      exact ⟨_, typed_one (.int k z hw), rep_one (.v _ rfl)⟩
    · rename_i ht
      cases h
      obtain ⟨b, rfl, _⟩ := DataW.trod_bool ht hx
      exact ⟨_, typed_one (.bool b), rep_one (.v _ rfl)⟩
    · rename_i ht
      cases h
      obtain ⟨s, rfl, _, hs⟩ := DataW.trod_string ht hx
      exact ⟨_, typed_one (.str s hs), rep_one (.v _ rfl)⟩
    · rename_i e ht
      split at h
      · rename_i fs hfs
        split at h
        · rename_i hc
          cases h
          rcases open_slice ht hx with ⟨rfl, _⟩ | ⟨a, len, cap, m, n', D, Pl, rfl, _, hl, hm, hmm, _, hi⟩
          · refine ⟨_, typed_one (.sl fs [] (Nat.zero_le _) (fun i hi => by simp at hi) (fun i hi => by simp at hi)), rep_one (.nil _ _ _ (Nat.zero_le _))⟩
          · simp only [if_true] at hmm
            subst hmm
            have hel : ∀ i, i < len → ∃ ts cs', TypedL fs ts ∧ RepL w ts cs' ∧ cs'.length = fs.length ∧ ∀ j, j < fs.length → w.cell? ((a.add (i * fs.length)).add j) = cs'[j]? := fun i hil => by
              obtain ⟨cs', h1, h2⟩ := hi i (by omega)
              obtain ⟨_, h3, h4⟩ := World.cells?_some h1
              obtain ⟨ts, h5, h6⟩ := open_ty n n' e fs cs' _ hfs h2 h3
              rw [hc.1] at h3 h4
              exact ⟨ts, cs', h5, h6, h3, h4⟩
            by_cases h0 : len = 0
            · subst h0
              exact ⟨_, typed_one (.sl fs [] (Nat.zero_le _) (fun i hi => by simp at hi) (fun i hi => by simp at hi)), rep_one (.nil _ _ _ hm)⟩
            · have hsp : a = ⟨a.block, a.off, none⟩ := by
                obtain ⟨ts, cs', _, _, h3, h4⟩ := hel 0 (by omega)
                have := h4 0 hc.2
                rw [List.getElem?_eq_getElem (by omega), Nat.zero_mul] at this
                rw [Go.Deep.add_add] at this
                exact spotNone this
              obtain ⟨b, o, sp⟩ := a
              simp only [Addr.mk.injEq, true_and] at hsp
              subst hsp
              have hel2 : ∀ i : Nat, ∃ (ts : List T) (c : Nat → Value), i < len → TypedL fs ts ∧ b < w.heap.size ∧ (∀ j, j < fs.length → w.cell? ⟨b, o + (i * fs.length + j), none⟩ = some (c j)) ∧ ∀ j (hj : j < ts.length), RepT w (fun _ => False) (ts[j]) (c j) := fun i => by
                by_cases hil : i < len
                · obtain ⟨ts, cs', h1, h2, h3, h4⟩ := hel i hil
                  refine ⟨ts, fun j => cs'.getD j undef, fun _ => ⟨h1, ?_, fun j hj => ?_, fun j hj => ?_⟩⟩
                  · have := h4 0 hc.2
                    rw [List.getElem?_eq_getElem (by omega), Go.Deep.add_add] at this
                    exact (addNone this).1
                  · have := h4 j hj
                    rw [List.getElem?_eq_getElem (by omega), Go.Deep.add_add] at this
                    rw [(addNone this).2]
                    simp [List.getD, List.getElem?_eq_getElem (show j < cs'.length by omega)]
                  · have := h2.2 j hj (by have := h2.1; omega)
                    simpa [List.getD, List.getElem?_eq_getElem (show j < cs'.length by have := h2.1; omega)] using this
                · exact ⟨[], fun _ => undef, fun h => absurd h hil⟩
              have hex := Classical.axiomOfChoice hel2
              obtain ⟨f, hf⟩ := hex
              have hex2 := Classical.axiomOfChoice hf
              obtain ⟨c, hc2⟩ := hex2
              have hxl : ((List.range len).map f).length = len := by simp
              have hxi : ∀ i (hi : i < ((List.range len).map f).length), ((List.range len).map f)[i] = f i := fun i hi => by simp
              refine ⟨_, typed_one (.sl fs ((List.range len).map f) (by rw [hxl]; omega) (fun i hi => by rw [hxi]; exact (hc2 i (by omega)).1.len) (fun i hi j hj hj' => ?_)), rep_one ?_⟩
              · simp only [hxi] at hj ⊢
                exact (hc2 i (by omega)).1.at_ j hj hj'
              · have hr := RepT.sl (w := w) (M := fun _ => False) fs.length ((List.range len).map f) b o m c (hc2 0 (by omega)).2.1 (fun h => h) (by rw [hxl]; exact hl) hm (fun i hi => by rw [hxi]; exact (hc2 i (by omega)).1.len) (fun i hi j hj => (hc2 i (by omega)).2.2.1 j hj) (fun i hi j hj => by
                  simp only [hxi] at hj ⊢
                  exact (hc2 i (by omega)).2.2.2 j hj)
                rw [hxl] at hr
                exact hr
        · cases h
      · cases h
    · rename_i fs ht
      split at h
      · rename_i es' hes
        split at h
        · rename_i hc
          cases h
          obtain ⟨xs, n', rfl, _, hl, hxl, hf⟩ := DataW.trod_struct ht hx
          obtain ⟨ts, h1, h2⟩ := open_fs (enc := enc) (n := n') cs (fun t es cs x h1 h2 h3 => open_ty n n' t es cs x h1 h2 h3) fs.toList 0 es hes (by omega) (fun f hfm => by
            obtain ⟨i, hi, rfl⟩ := List.getElem_of_mem hfm
            have := hf i fs.toList[i] (by simp at hi; simp [hi])
            rw [List.getElem?_eq_getElem (by simp at hi; omega)] at this
            exact ⟨_, this⟩)
          refine ⟨ts, h1, ?_⟩
          rw [List.drop_zero, List.take_of_length_le (by omega)] at h2
          exact h2
        · cases h
      · cases h
    · cases h
/-- An argument as a datum. -/
def argA (P : Program) (t : TypeId) (ts : List T) : A := if isRowB (P.underlying t) then .agg (ts.map .t) else (match ts with | [x] => .t x | _ => .dead)
theorem open_arg {t : TypeId} {v : Value} {d : DataW H} {p : List MemPlace} {r : Reach} {b0 : Nat} {es : List Sh} (hsh : shOf P 20 t = some es) (hct : P.cellsOf t = es.length) (ok : Value.okWide P w r b0 t v) (h : DataW.Trod enc P w 0 (fun _ => true) true t v d p) : ∃ ts, TypedL es ts ∧ RepF w (fun _ => False) (argA P t ts) v := by
  obtain ⟨fuel, hf⟩ := h
  have scal : isRowB (P.underlying t) = false → v.cells = #[v] → es.length = 1 → P.cellsOf t = 1 → ∃ ts, TypedL es ts ∧ RepF w (fun _ => False) (argA P t ts) v := fun h1 h2 h3 h4 => by
    rw [h2] at hf
    obtain ⟨ts, h5, h6⟩ := open_ty 20 fuel t es _ _ hsh hf (by simp [h4])
    have : ts.length = 1 := by rw [h5.len, h3]
    obtain ⟨x, rfl⟩ := List.length_eq_one_iff.1 this
    refine ⟨[x], h5, ?_⟩
    unfold argA
    rw [h1]
    exact .t _ _ (h6.2 0 (by simp) (by simp))
  have hsh' := hsh
  simp only [shOf] at hsh'
  split at hsh'
  · rename_i k ht
    cases hsh'
    obtain ⟨n, rfl⟩ := okWide_int ht ok
    exact scal (by rw [ht]; rfl) rfl rfl hct
  · rename_i ht
    cases hsh'
    obtain ⟨n, rfl⟩ := okWide_bool ht ok
    exact scal (by rw [ht]; rfl) rfl rfl hct
  · rename_i ht
    cases hsh'
    obtain ⟨n, rfl⟩ := okWide_string ht ok
    exact scal (by rw [ht]; rfl) rfl rfl hct
  · rename_i e ht
    obtain ⟨a, l, c, rfl⟩ := okWide_slice ht ok
    split at hsh'
    · split at hsh'
      · cases hsh'; exact scal (by rw [ht]; rfl) rfl rfl hct
      · cases hsh'
    · cases hsh'
  · rename_i fs ht
    obtain ⟨cs, rfl, hsz⟩ := okWide_struct ht ok
    obtain ⟨ts, h5, h6⟩ := open_ty 20 fuel t es _ _ hsh hf (by simpa [Value.cells] using hsz)
    refine ⟨ts, h5, ?_⟩
    unfold argA
    rw [ht, show isRowB (some (TypeDesc.struct fs)) = true from rfl, if_pos rfl]
    have hl : cs.size = ts.length := by have := h6.1; simp [Value.cells] at this; exact this.symm
    exact .agg _ cs (by simpa using hl) (fun i hi => by simp [A.single]) (fun i hi => by
      have := h6.2 i (by simpa using hi) (by simp [Value.cells]; have : i < ts.length := by simpa using hi
                                             omega)
      simp only [List.getElem_map]
      exact .t _ _ (by simpa [Value.cells] using this))
  · cases hsh'
end
end Go.Proofs.Ytblikpgdepjhdaa
/-! Abstract execution: a statement's walk; data of a type, written out. -/
namespace Go.Proofs.Ytblikpgdepjhdaa
open Go.RowKit
set_option linter.unusedVariables false

theorem law_of {P : Program} {w : World} {f : FuncId} {args : List A} (h : FnP P f args (.v (.bool true))) {vals : Array Value} (hsz : vals.size = args.length) (hargs : ∀ i (hi : i < args.length), RepF w (fun _ => False) (args[i]) (vals.getD i undef)) :
    Calls P f vals w fun e w' => e = .returned (.bool true) ∧ Below w.heap.size w w' := by
  refine (h.2 w (fun _ => False) vals (fun b hb => hb.elim) hsz hargs).mono ?_
  rintro e w' ⟨v, rfl, hb, hr⟩
  have : v = .bool true := rep_val hr
  subst this
  exact ⟨rfl, hb⟩
theorem typed_nil {ts : List T} (h : TypedL [] ts) : ts = [] := List.eq_nil_of_length_eq_zero h.len
theorem typed_cons {e : Sh} {es : List Sh} {ts : List T} (h : TypedL (e :: es) ts) : ∃ t us, ts = t :: us ∧ TypedT e t ∧ TypedL es us := by
  cases ts with
  | nil => have := h.len; simp at this
  | cons t us => exact ⟨t, us, rfl, h.at_ 0 (by simp) (by simp), by have := h.len; simpa using this, fun j hj hj' => h.at_ (j + 1) (by simpa using hj) (by simpa using hj')⟩
theorem typed_int {k : IntKind} {t : T} (h : TypedT (.int k) t) : ∃ n, t = .v (.int k n) ∧ (Lit.int k n).wf = true := by cases h with | int _ n h => exact ⟨n, rfl, h⟩
theorem typed_bool {t : T} (h : TypedT .bool t) : ∃ b, t = .v (.bool b) := by cases h with | bool b => exact ⟨b, rfl⟩
theorem typed_str {t : T} (h : TypedT .str t) : ∃ s : ByteArray, t = .v (.string s) ∧ s.size ≤ maxLen := by cases h with | str s h => exact ⟨s, rfl, h⟩
theorem typed_sl {es : List Sh} {t : T} (h : TypedT (.sl es) t) {α : Type} (f : α → List T) (good : α → Prop) (hf : ∀ ts, TypedL es ts → ∃ a, ts = f a ∧ good a) : ∃ l : List α, t = .sl es.length (l.map f) ∧ l.length ≤ maxLen ∧ ∀ a ∈ l, good a := by
  cases h with
  | sl _ xs hm hl ht =>
    have main : ∀ xs : List (List T), (∀ x ∈ xs, TypedL es x) → ∃ l : List α, xs = l.map f ∧ ∀ a ∈ l, good a := fun xs => by
      induction xs with
      | nil => intro _; exact ⟨[], rfl, fun a ha => by simp at ha⟩
      | cons x xs ih =>
        intro hx
        obtain ⟨a, rfl, ha⟩ := hf x (hx x (by simp))
        obtain ⟨l, rfl, hl⟩ := ih (fun y hy => hx y (by simp [hy]))
        exact ⟨a :: l, rfl, fun b hb => by
          rcases List.mem_cons.1 hb with rfl | hb
          · exact ha
          · exact hl b hb⟩
    obtain ⟨l, rfl, hg⟩ := main xs (fun x hx => by
      obtain ⟨i, hi, rfl⟩ := List.getElem_of_mem hx
      exact ⟨hl i hi, fun j hj hj' => ht i hi j hj hj'⟩)
    exact ⟨l, rfl, by simpa using hm, hg⟩
theorem wf_int {k : IntKind} {n : Int} (h : (Lit.int k n).wf = true) : k.min ≤ n ∧ n ≤ k.max := by
  simpa [Lit.wf] using h
end Go.Proofs.Ytblikpgdepjhdaa
