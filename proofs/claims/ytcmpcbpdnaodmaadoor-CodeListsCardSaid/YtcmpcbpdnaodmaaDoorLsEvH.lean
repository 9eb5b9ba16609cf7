/- Parts of the proof. -/
import Derived.Test.YtcmpcbpdnaodmaaDoorLsXI
namespace Go.Proofs.YtcmpcbpdnaodmaaDoor
open Go.RowKit
set_option linter.unusedVariables false
variable {B : Tab} {P : Program}
def h0 : Hn := ⟨[], [], [], [], []⟩
def Hn.add (a b : Hn) : Hn := ⟨a.R ++ b.R, a.F ++ b.F, a.Z ++ b.Z, a.N ++ b.N, a.M ++ b.M⟩
def Hn.inM (a : Hn) : Hn := ⟨a.R, a.F, a.Z, [], a.N⟩
def hC (B : Tab) (t j : Nat) : UV → C1 B → Hn
  | .own id _ _, .ref k => ⟨[(k, id)], [], [], [], []⟩
  | .own id e d, .d (.t (.v (.slice none 0 0))) => ⟨[], [], [(id, e, sz B d)], [(t, j, .row id)], []⟩
  | .map id _ _, .ob k => ⟨[(k, id)], [], [], [], []⟩
  | .dat (.sl _), .ref k => ⟨[], [k], [], [], []⟩
  | .dat (.sl k), .d (.t (.v (.slice none 0 0))) => ⟨[], [], [], [(t, j, .sl (sz B k))], []⟩
  | _, _ => h0
def hL (B : Tab) (t : Nat) : Nat → List UV → List (C1 B) → Hn
  | j, u :: l, c :: cs => (hC B t j u c).add (hL B t (j + 1) l cs)
  | _, _, _ => h0
def hSt (B : Tab) (t : Nat) (own : List (Nat × TypeId)) (base : Nat) : Nat → List D → List (C1 B) → Hn
  | c, d :: l, y :: cs => (match d with
    | .sl k => (match ownAt own c with | some e => hC B t c (.own (base + c) e k) y | none => hC B t c (.dat (.sl k)) y)
    | .map k d => hC B t c (.map (base + c) k d) y
    | _ => h0).add (hSt B t own base (c + 1) l cs)
  | _, _, _ => h0
def hV (B : Tab) (t : Nat) : SV → V2 B → Hn
  | .one u, .c c => hC B t 0 u c
  | .agg l, .agg cs => hL B t 0 l cs
  | .st i own base, .agg cs => hSt B t own base 0 (B.lv i) cs
  | _, _ => h0
def hSl (s : TS B) : List (Nat × SV) → Hn
  | [] => h0
  | p :: l => (match lkT s.es p.1 with | .v a => hV B p.1 p.2 a | _ => h0).add (hSl s l)
def hMb (s : TS B) : MB → Hn
  | .box id _ l => (match getB s.ms id with | some (.box _ cs) => (hL B id 0 l cs).inM | _ => h0)
  | .st id _ i own base => (match getB s.ms id with | some (.box _ cs) => (hSt B id own base 0 (B.lv i) cs).inM | _ => h0)
def hBx (s : TS B) : List MB → Hn
  | [] => h0
  | m :: l => (hMb s m).add (hBx s l)
def hintS (sh : Sh) (s : TS B) : Hn := (hSl s sh.sl).add (hBx s sh.bx)
def hRl (B : Tab) : Nat → List SV → List (V2 B) → Hn
  | i, w :: l, a :: vs => (hV B i w a).add (hRl B (i + 1) l vs)
  | _, _, _ => h0
def hintR (P : Program) (f : FuncId) (rh : Rh) (s : TS B) : Hn := (match resV P s (rvF P f) with | some l => hRl B 0 rh.rs l | none => h0).add (hBx s rh.bx)
def goS (sh : Sh) (s : TS B) : Option (Vars B sh) := packS sh (hintS sh s) s
def goR (P : Program) (f : FuncId) (rh : Rh) (s : TS B) : Option (Res B rh) := packR P f rh (hintR P f rh s) s
theorem goS_ok {sh : Sh} {s : TS B} {x : Vars B sh} (h : goS sh s = some x) : Fits s.er.st (sh.inst s.n x).er.st := packS_ok h
end Go.Proofs.YtcmpcbpdnaodmaaDoor
namespace Go.Proofs.YtcmpcbpdnaodmaaDoor
open Go.RowKit
set_option linter.unusedVariables false
variable {B : Tab} {P : Program}
structure Lb where
  v : Nat
  rp : List Nat
  sh : Sh
structure LT where
  lb : Nat → Lb
  fn : Nat → FuncId
  rh : Nat → Rh
  lat : Nat → List Nat → Option Nat
  hd : Nat → Bool
  hz : Nat → List Nat → Nat → List Nat
  hm : Nat → List Nat → Nat → Nat
abbrev Ix (B : Tab) (t : LT) : Type := Σ l : Nat, Vars B (t.lb l).sh
abbrev Bx (B : Tab) (t : LT) : Ix B t → Type := fun i => Res B (t.rh (t.lb i.1).v)
def castR {B : Tab} {t : LT} {a b : Nat} (h : a = b) (x : Option (Res B (t.rh a))) : Option (Res B (t.rh b)) := h ▸ x
inductive Md where
  | go (rp : List Nat)
  | inn (rp : List Nat)
  | up (rp : List Nat) (e : Exit)
def chC : Code → Nat → Code
  | .seq a _, 0 => a
  | .seq _ b, 1 => b
  | .cond _ a _, 0 => a
  | .cond _ _ b, 1 => b
  | .block _ b, 0 => b
  | .loop b, 0 => b
  | _, _ => .skip
section
variable (P) (t : LT) (g : (i : Ix B t) → Option (Bx B t i)) (act : List Nat → Nat → Oper → TS B → Act B) (v : Nat)
def evGoto (l : Nat) (s : TS B) : Option (Res B (t.rh v)) :=
  match Nat.decEq (t.lb l).v v with
  | .isTrue h => (match t.hd l, Nat.beq s.n (ntF P (t.fn v)), goS (t.lb l).sh s with | false, true, some x => castR h (g ⟨l, x⟩) | _, _, _ => none)
  | .isFalse _ => none
def condS (s : TS B) (c : Operand) (b : Bool) : TS B := match c with | .tmp d => s.setS d (.c (.v (.bool b))) | _ => s
def codeAt : List Nat → Code
  | [] => bodyC P (t.fn v)
  | i :: rp => chC (codeAt rp) i
def eqP : List Nat → List Nat → Bool
  | [], [] => true
  | a :: l, b :: r => Nat.beq a b && eqP l r
  | _, _ => false
def evM : Nat → Md → TS B → Option (Res B (t.rh v))
  | 0, _, _ => none
  | n + 1, .go rp, s => (match t.lat v rp with
    | some l => (match eqP (t.lb l).rp rp with | true => evGoto P t g v l s | false => none)
    | none => evM n (.inn rp) s)
  | n + 1, .inn rp, s => (match codeAt P t v rp with
    | .region id ops dr => evReg dr (t.hz v rp) (act rp) ops s fun s' => evM n (.up rp .normal) s'
    | .seq _ _ => evM n (.go (0 :: rp)) s
    | .cond c _ _ => (match s.ev c with
      | .v (.c (.d (.t (.v (.bool b))))) => cond b (evM n (.go (0 :: rp)) (condS s c true)) (evM n (.go (1 :: rp)) (condS s c false))
      | _ => none)
    | .block _ _ => evM n (.go (0 :: rp)) s
    | .skip => evM n (.up rp .normal) s
    | .exit i => evM n (.up rp (.exit i)) s
    | .ret => evM n (.up rp .ret) s
    | _ => none)
  | n + 1, .up [] e, s => (match e with
    | .ret => goR P (t.fn v) (t.rh v) s
    | .normal => goR P (t.fn v) (t.rh v) s
    | _ => none)
  | n + 1, .up (i :: rp) e, s => (match codeAt P t v rp with
    | .seq _ _ => (match i, e with
      | 0, .normal => evM n (.go (1 :: rp)) s
      | _, e => evM n (.up rp e) s)
    | .loop _ => (match e with
      | .normal => (match t.lat v rp with
        | some l => (match eqP (t.lb l).rp rp with | true => evGoto P t g v l s | false => none)
        | none => none)
      | e => evM n (.up rp e) s)
    | .block id _ => (match e with
      | .exit j => (match Nat.beq j id with | true => evM n (.up rp .normal) s | false => evM n (.up rp (.exit j)) s)
      | e => evM n (.up rp e) s)
    | .cond _ _ _ => evM n (.up rp e) s
    | _ => none)
def evL (n : Nat) (rp : List Nat) (s : TS B) : Option (Res B (t.rh v)) :=
  match codeAt P t v rp with
  | .loop _ => evM P t g act v n (.go (0 :: rp)) s
  | _ => evM P t g act v n (.inn rp) s
end
abbrev Acts (B : Tab) (t : LT) : Type 1 := ((i : Ix B t) → Option (Bx B t i)) → Nat → List Nat → Nat → Oper → TS B → Act B
def EVB (P : Program) (t : LT) (hand : (i : Ix B t) → Option (Bx B t i)) (acts : Acts B t) (fuel : Nat) (g : (i : Ix B t) → Option (Bx B t i)) (i : Ix B t) : Option (Bx B t i) :=
  match t.hd i.1 with
  | true => hand i
  | false => evL P t g (acts g (t.lb i.1).v) (t.lb i.1).v fuel (t.lb i.1).rp ((t.lb i.1).sh.inst (ntF P (t.fn (t.lb i.1).v)) i.2)
end Go.Proofs.YtcmpcbpdnaodmaaDoor
namespace Go.Proofs.YtcmpcbpdnaodmaaDoor
open Go.RowKit
set_option linter.unusedVariables false
variable {B : Tab} {P : Program} {t : LT} {v : Nat}
def QP (P : Program) (t : LT) (v : Nat) (N : (l : Nat) → Vars B (t.lb l).sh → Prop) (r : Res B (t.rh v)) : List Nat → Exit → St → Prop
  | [], e, st => ∃ fn, P.funcs[t.fn v]? = some fn ∧ retIO P fn (resI (t.rh v) r) (erM (resM (t.rh v) r)) e st
  | i :: rp, e, st => match codeAt P t v rp with
    | .seq _ y => (match i with | 0 => thenQ P y (QP P t v N r rp) e st | _ => QP P t v N r rp e st)
    | .loop _ => (match e with
      | .normal => ∃ l x, (t.lb l).rp = rp ∧ (t.lb l).v = v ∧ t.lat v rp = some l ∧ N l x ∧ Fits st ((t.lb l).sh.inst (ntF P (t.fn v)) x).er.st
      | e => QP P t v N r rp e st)
    | .block id _ => blockQ id (QP P t v N r rp) e st
    | _ => QP P t v N r rp e st
theorem eqP_eq : ∀ {l r : List Nat}, eqP l r = true → l = r
  | [], [], _ => rfl
  | a :: l, b :: r, h => by
    simp only [eqP, Bool.and_eq_true] at h
    rw [beq_t h.1, eqP_eq h.2]
  | [], _ :: _, h => by cases h
  | _ :: _, [], h => by cases h
section
variable {N N' : (l : Nat) → Vars B (t.lb l).sh → Prop} {r : Res B (t.rh v)}
theorem W_mono {c : Code} {st : St} {Q Q' : Exit → St → Prop} (h : W P c st Q) (hQ : ∀ e st, Q e st → Q' e st) : W P c st Q' := fun C a w hP hs =>
  wp_mono (h C a w hP hs) fun e a' w' ⟨st', h1, h2, h3⟩ => ⟨st', h1, hQ e st' h2, h3⟩
theorem QP_mono (hN : ∀ l x, N l x → N' l x) : ∀ (rp : List Nat) (e : Exit) (st : St), QP P t v N r rp e st → QP P t v N' r rp e st
  | [], e, st, h => h
  | i :: rp, e, st, h => by
    unfold QP at h ⊢
    split at h
    · split at h
      · cases e with
        | normal => exact W_mono h (QP_mono hN rp)
        | _ => exact QP_mono hN rp _ st h
      · exact QP_mono hN rp e st h
    · split at h
      · obtain ⟨l, x, h1, h2, h3, h4, h5⟩ := h
        exact ⟨l, x, h1, h2, h3, hN l x h4, h5⟩
      · exact QP_mono hN rp e st h
    · rename_i id c hc
      cases e with
      | exit j =>
        simp only [blockQ] at h ⊢
        split at h
        · rename_i hj; rw [if_pos hj]; exact QP_mono hN rp _ st h
        · rename_i hj; rw [if_neg hj]; exact QP_mono hN rp _ st h
      | _ => exact QP_mono hN rp _ st h
    · exact QP_mono hN rp e st h
end
structure Knows (P : Program) (t : LT) (v : Nat) (g : (i : Ix B t) → Option (Bx B t i)) (N : (l : Nat) → Vars B (t.lb l).sh → Prop) (r : Res B (t.rh v)) : Prop where
  n : ∀ l x (h : (t.lb l).v = v), t.hd l = false → castR h (g ⟨l, x⟩) = some r → N l x
  w : ∀ l x (h : (t.lb l).v = v), t.hd l = false → castR h (g ⟨l, x⟩) = some r → W P (codeAt P t v (t.lb l).rp) ((t.lb l).sh.inst (ntF P (t.fn v)) x).er.st (QP P t v N r (t.lb l).rp)
theorem goto_ok {g : (i : Ix B t) → Option (Bx B t i)} {l : Nat} {s : TS B} {r : Res B (t.rh v)} (h : evGoto P t g v l s = some r) :
    ∃ (hv : (t.lb l).v = v) (x : Vars B (t.lb l).sh), t.hd l = false ∧ castR hv (g ⟨l, x⟩) = some r ∧ Fits s.er.st ((t.lb l).sh.inst (ntF P (t.fn v)) x).er.st := by
  unfold evGoto at h
  split at h
  · rename_i hv _
    split at h
    · rename_i x hd hn hx
      refine ⟨hv, x, hd, h, ?_⟩
      rw [← beq_t hn]
      exact goS_ok hx
    · cases h
  · cases h
theorem fits_W {c : Code} {st st' : St} {Q : Exit → St → Prop} (hf : Fits st st') (h : W P c st' Q) : W P c st Q := W_pre hf h
theorem rvF_eq {f : FuncId} {fn : Func} (h : P.funcs[f]? = some fn) : rvF P f = fn.results.toList := by unfold rvF; rw [h]
theorem goR_ok {rh : Rh} {f : FuncId} {fn : Func} (hf : P.funcs[f]? = some fn) {s : TS B} {x : Res B rh} {e : Exit} (he : e = .ret ∨ e = .normal) (h : goR P f rh s = some x) : retIO P fn (resI rh x) (erM (resM rh x)) e s.er.st := by
  obtain ⟨m', h1, h2⟩ := packR_ok h
  rw [rvF_eq hf] at h1
  refine retIO_alike h2 ?_
  rcases he with rfl | rfl
  · exact retIO_ret _ h1
  · exact retIO_end _ h1
theorem condS_same {s : TS B} {c : Operand} {b : Bool} (h : s.ev c = .c (.v (.bool b))) : condS s c b = s := by
  cases c with
  | tmp d => exact setS_same h
  | _ => rfl
section
variable {N : (l : Nat) → Vars B (t.lb l).sh → Prop} {r : Res B (t.rh v)}
theorem QP_seq0 {rp : List Nat} {x y : Code} (hc : codeAt P t v rp = .seq x y) : QP P t v N r (0 :: rp) = thenQ P y (QP P t v N r rp) := by
  funext e st
  show (match codeAt P t v rp with
    | .seq _ y => thenQ P y (QP P t v N r rp) e st
    | .loop _ => _
    | .block id _ => _
    | _ => _) = _
  rw [hc]
theorem QP_seq1 {rp : List Nat} {x y : Code} {i : Nat} (hc : codeAt P t v rp = .seq x y) : QP P t v N r ((i + 1) :: rp) = QP P t v N r rp := by
  funext e st
  show (match codeAt P t v rp with
    | .seq _ y => QP P t v N r rp e st
    | .loop _ => _
    | .block id _ => _
    | _ => _) = _
  rw [hc]
theorem QP_cond {rp : List Nat} {c : Operand} {x y : Code} {i : Nat} (hc : codeAt P t v rp = .cond c x y) : QP P t v N r (i :: rp) = QP P t v N r rp := by
  funext e st
  unfold QP
  rw [hc]
  cases rp <;> rfl
theorem QP_block {rp : List Nat} {id : Nat} {x : Code} {i : Nat} (hc : codeAt P t v rp = .block id x) : QP P t v N r (i :: rp) = blockQ id (QP P t v N r rp) := by
  funext e st
  show (match codeAt P t v rp with
    | .seq _ y => _
    | .loop _ => _
    | .block id _ => blockQ id (QP P t v N r rp) e st
    | _ => _) = _
  rw [hc]
theorem QP_loopN {rp : List Nat} {x : Code} {i : Nat} {st : St} (hc : codeAt P t v rp = .loop x) : QP P t v N r (i :: rp) .normal st = ∃ l x, (t.lb l).rp = rp ∧ (t.lb l).v = v ∧ t.lat v rp = some l ∧ N l x ∧ Fits st ((t.lb l).sh.inst (ntF P (t.fn v)) x).er.st := by
  show (match codeAt P t v rp with
    | .seq _ y => _
    | .loop _ => _
    | .block id _ => _
    | _ => _) = _
  rw [hc]
theorem QP_loopE {rp : List Nat} {x : Code} {i : Nat} {e : Exit} {st : St} (hc : codeAt P t v rp = .loop x) (he : e ≠ .normal) : QP P t v N r (i :: rp) e st = QP P t v N r rp e st := by
  cases e with
  | normal => exact (he rfl).elim
  | _ =>
    show (match codeAt P t v rp with
      | .seq _ y => _
      | .loop _ => _
      | .block id _ => _
      | _ => _) = _
    rw [hc]
end
section
variable {g : (i : Ix B t) → Option (Bx B t i)} {act : List Nat → Nat → Oper → TS B → Act B} {N : (l : Nat) → Vars B (t.lb l).sh → Prop} {r : Res B (t.rh v)}
theorem evM_ok (hmix : P.follows .mixedOrders = true) (ha : ∀ rp i o s, Sound P o s (act rp i o s)) (hk : Knows P t v g N r) {fn : Func} (hf : P.funcs[t.fn v]? = some fn) : ∀ (n : Nat),
    (∀ rp s, evM P t g act v n (.go rp) s = some r → W P (codeAt P t v rp) s.er.st (QP P t v N r rp)) ∧
    (∀ rp s, evM P t g act v n (.inn rp) s = some r → W P (codeAt P t v rp) s.er.st (QP P t v N r rp)) ∧
    (∀ rp e s, evM P t g act v n (.up rp e) s = some r → QP P t v N r rp e s.er.st)
  | 0 => ⟨fun _ _ h => (by cases h), fun _ _ h => (by cases h), fun _ _ _ h => (by cases h)⟩
  | n + 1 => by
    obtain ⟨ih1, ih2, ih3⟩ := evM_ok hmix ha hk hf n
    refine ⟨fun rp s h => ?_, fun rp s h => ?_, fun rp e s h => ?_⟩
    · unfold evM at h
      split at h
      · rename_i l hl
        split at h
        · rename_i he
          obtain ⟨hv, x, hd, hx, hfit⟩ := goto_ok h
          have := hk.w l x hv hd hx
          rw [eqP_eq he] at this
          exact fits_W hfit this
        · cases h
      · exact ih2 rp s h
    · unfold evM at h
      split at h
      · rename_i id ops dr hc
        rw [hc]
        exact evReg_ok hmix (ha rp) h fun s' hs' => ih3 rp .normal s' hs'
      · rename_i x y hc
        have h1 := ih1 (0 :: rp) s h
        have e1 : codeAt P t v (0 :: rp) = x := by show chC (codeAt P t v rp) 0 = x; rw [hc]; rfl
        have e2 := QP_seq0 (N := N) (r := r) hc
        rw [e1, e2] at h1
        rw [hc]
        exact W_seq h1
      · rename_i c x y hc
        split at h
        · rename_i b hb
          have hcv : s.er.st.ev c = .v (.bool b) := by rw [ev_er, hb]; rfl
          have e0 : codeAt P t v (0 :: rp) = x := by show chC (codeAt P t v rp) 0 = x; rw [hc]; rfl
          have e1 : codeAt P t v (1 :: rp) = y := by show chC (codeAt P t v rp) 1 = y; rw [hc]; rfl
          rw [hc]
          refine W_cond b hcv (fun ht => ?_) (fun hf' => ?_)
          · subst ht
            rw [condS_same hb] at h
            have := ih1 (0 :: rp) s h
            rw [e0, QP_cond hc] at this
            exact this
          · subst hf'
            rw [condS_same hb] at h
            have := ih1 (1 :: rp) s h
            rw [e1, QP_cond hc] at this
            exact this
        · cases h
      · rename_i id x hc
        have e0 : codeAt P t v (0 :: rp) = x := by show chC (codeAt P t v rp) 0 = x; rw [hc]; rfl
        have := ih1 (0 :: rp) s h
        rw [e0, QP_block hc] at this
        rw [hc]
        exact W_block this
      · rename_i hc; rw [hc]; exact W_skip (ih3 rp .normal s h)
      · rename_i i hc; rw [hc]; exact W_exit (ih3 rp (.exit i) s h)
      · rename_i hc; rw [hc]; exact W_ret (ih3 rp .ret s h)
      · cases h
    · cases rp with
      | nil =>
        unfold evM at h
        split at h
        · exact ⟨fn, hf, goR_ok hf (.inl rfl) h⟩
        · exact ⟨fn, hf, goR_ok hf (.inr rfl) h⟩
        · cases h
      | cons i rp =>
        unfold evM at h
        split at h
        · rename_i x y hc
          split at h
          · have e1 : codeAt P t v (1 :: rp) = y := by show chC (codeAt P t v rp) 1 = y; rw [hc]; rfl
            have := ih1 (1 :: rp) s h
            rw [e1, QP_seq1 (i := 0) hc] at this
            rw [QP_seq0 hc]
            exact this
          · rename_i hne
            have := ih3 rp e s h
            cases i with
            | zero =>
              rw [QP_seq0 hc]
              cases e with
              | normal => exact (hne rfl rfl).elim
              | _ => exact this
            | succ i => rw [QP_seq1 hc]; exact this
        · rename_i x hc
          cases e with
          | normal =>
            rw [QP_loopN hc]
            replace h : (match t.lat v rp with
              | some l => (match eqP (t.lb l).rp rp with | true => evGoto P t g v l s | false => none)
              | none => none) = some r := h
            split at h
            · rename_i l hl
              split at h
              · rename_i he
                obtain ⟨hv, x, hd, hx, hfit⟩ := goto_ok h
                exact ⟨l, x, eqP_eq he, hv, hl, hk.n l x hv hd hx, hfit⟩
              · cases h
            · cases h
          | exit j => rw [QP_loopE hc (by simp)]; exact ih3 rp _ s h
          | goto j => rw [QP_loopE hc (by simp)]; exact ih3 rp _ s h
          | ret => rw [QP_loopE hc (by simp)]; exact ih3 rp _ s h
          | panic j => rw [QP_loopE hc (by simp)]; exact ih3 rp _ s h
          | outgrown => rw [QP_loopE hc (by simp)]; exact ih3 rp _ s h
        · rename_i id x hc
          rw [QP_block hc]
          split at h
          · rename_i j
            split at h
            · rename_i hj
              show (if j = id then QP P t v N r rp .normal s.er.st else _)
              rw [if_pos (beq_t hj)]
              exact ih3 rp .normal s h
            · rename_i hj
              show (if j = id then _ else QP P t v N r rp (.exit j) s.er.st)
              rw [if_neg (beq_f hj)]
              exact ih3 rp _ s h
          · rename_i hne
            have := ih3 rp e s h
            cases e with
            | exit j => exact (hne j rfl).elim
            | _ => exact this
        · rename_i c x y hc
          rw [QP_cond hc]
          exact ih3 rp e s h
        · cases h
end
end Go.Proofs.YtcmpcbpdnaodmaaDoor
namespace Go.Proofs.YtcmpcbpdnaodmaaDoor
open Go.RowKit
set_option linter.unusedVariables false
variable {B : Tab} {P : Program} {t : LT}
def Mean (P : Program) (t : LT) (l : Nat) (x : Vars B (t.lb l).sh) (r : Res B (t.rh (t.lb l).v)) : Prop :=
  W P (bodyC P (t.fn (t.lb l).v)) ((t.lb l).sh.inst (ntF P (t.fn (t.lb l).v)) x).er.st fun e st => ∃ fn, P.funcs[t.fn (t.lb l).v]? = some fn ∧ retIO P fn (resI (t.rh (t.lb l).v) r) (erM (resM (t.rh (t.lb l).v) r)) e st
def argI : (l : List (Nat × SV)) → SLt B l → List A
  | [], _ => []
  | p :: l, x => (p.2.inst x.1).er :: argI l x.2
def MeanH (P : Program) (t : LT) (l : Nat) (x : Vars B (t.lb l).sh) (r : Res B (t.rh (t.lb l).v)) : Prop :=
  FnIO P (t.fn (t.lb l).v) (argI (t.lb l).sh.sl x.1) (erM (memI (t.lb l).sh x)) (resI (t.rh (t.lb l).v) r) (erM (resM (t.rh (t.lb l).v) r))
def Means (P : Program) (t : LT) (g : (i : Ix B t) → Option (Bx B t i)) : Prop := ∀ l x r, g ⟨l, x⟩ = some r → (t.lb l).rp = [] → Mean P t l x r ∨ MeanH P t l x r
section
variable {hand : (i : Ix B t) → Option (Bx B t i)} {acts : Acts B t} {fuel : Nat}
def NF (P : Program) (t : LT) (hand : (i : Ix B t) → Option (Bx B t i)) (acts : Acts B t) (fuel n v : Nat) (r : Res B (t.rh v)) (l : Nat) (x : Vars B (t.lb l).sh) : Prop :=
  ∃ (h : (t.lb l).v = v) (m : Nat), m ≤ n ∧ t.hd l = false ∧ castR h (recN (EVB P t hand acts fuel) m ⟨l, x⟩) = some r
theorem castL {l : Nat} {x : Vars B (t.lb l).sh} {v k : Nat} (h : (t.lb l).v = v) (hd : t.hd l = false) : castR h (recN (EVB P t hand acts fuel) (k + 1) ⟨l, x⟩) = evL P t (recN (EVB P t hand acts fuel) k) (acts (recN (EVB P t hand acts fuel) k) v) v fuel (t.lb l).rp ((t.lb l).sh.inst (ntF P (t.fn v)) x) := by
  subst h
  show (match t.hd l with | true => _ | false => _) = _
  rw [hd]
theorem cast0 {l : Nat} {x : Vars B (t.lb l).sh} {v : Nat} {r : Res B (t.rh v)} (h : (t.lb l).v = v) (e : castR h (recN (EVB P t hand acts fuel) 0 ⟨l, x⟩) = some r) : False := by
  subst h
  cases e
theorem castH {l : Nat} {x : Vars B (t.lb l).sh} {k : Nat} {r : Res B (t.rh (t.lb l).v)} (hd : t.hd l = true) (e : recN (EVB P t hand acts fuel) k ⟨l, x⟩ = some r) : hand ⟨l, x⟩ = some r := by
  cases k with
  | zero => cases e
  | succ k =>
    replace e : (match t.hd l with | true => hand ⟨l, x⟩ | false => _) = some r := e
    rw [hd] at e
    exact e
theorem evL_loop {g : (i : Ix B t) → Option (Bx B t i)} {act : List Nat → Nat → Oper → TS B → Act B} {v : Nat} {rp : List Nat} {c : Code} {s : TS B} (hc : codeAt P t v rp = .loop c) : evL P t g act v fuel rp s = evM P t g act v fuel (.go (0 :: rp)) s := by
  unfold evL; rw [hc]
theorem evL_not {g : (i : Ix B t) → Option (Bx B t i)} {act : List Nat → Nat → Oper → TS B → Act B} {v : Nat} {rp : List Nat} {s : TS B} (hc : ∀ c, codeAt P t v rp ≠ .loop c) : evL P t g act v fuel rp s = evM P t g act v fuel (.inn rp) s := by
  unfold evL
  split
  · rename_i c h; exact (hc c h).elim
  · rfl
theorem ev_ok (hmix : P.follows .mixedOrders = true) (hfn : ∀ l v, (t.lb l).v = v → t.hd l = false → ∃ fn, P.funcs[t.fn v]? = some fn) (hh : ∀ l x r, t.hd l = true → hand ⟨l, x⟩ = some r → MeanH P t l x r) (ha : ∀ g, Means P t g → ∀ v rp i o s, Sound P o s (acts g v rp i o s)) :
    ∀ (n : Nat), ∀ l x v (h : (t.lb l).v = v) (r : Res B (t.rh v)), t.hd l = false → castR h (recN (EVB P t hand acts fuel) n ⟨l, x⟩) = some r →
      W P (codeAt P t v (t.lb l).rp) ((t.lb l).sh.inst (ntF P (t.fn v)) x).er.st (QP P t v (NF P t hand acts fuel n v r) r (t.lb l).rp) := by
  intro n
  induction n using Nat.strongRecOn with
  | _ n ih =>
  intro l x v h r hd hr
  cases n with
  | zero => exact (cast0 h hr).elim
  | succ m =>
    have means : ∀ k, k < m + 1 → Means P t (recN (EVB P t hand acts fuel) k) := fun k hk l x r hr hrp => by
      cases hd : t.hd l with
      | true => exact .inr (hh l x r hd (castH hd hr))
      | false =>
        have := ih k hk l x _ rfl r hd hr
        rw [hrp] at this
        exact .inl this
    have knows : ∀ k, k < m + 1 → Knows P t v (recN (EVB P t hand acts fuel) k) (NF P t hand acts fuel k v r) r := fun k hk =>
      ⟨fun l x h hd hr => ⟨h, k, Nat.le_refl _, hd, hr⟩, fun l x h hd hr => ih k hk l x v h r hd hr⟩
    obtain ⟨fn, hf⟩ := hfn l v h hd
    by_cases hc : ∃ c, codeAt P t v (t.lb l).rp = .loop c
    · obtain ⟨c, hc⟩ := hc
      rw [hc]
      have := W_fix (P := P) (σ := Ix B t) (c := c) (Q := QP P t v (NF P t hand acts fuel (m + 1) v r) r (t.lb l).rp) (fun k i => k ≤ m + 1 ∧ ∃ h' : (t.lb i.1).v = v, t.hd i.1 = false ∧ (t.lb i.1).rp = (t.lb l).rp ∧ castR h' (recN (EVB P t hand acts fuel) k i) = some r) (fun i => ((t.lb i.1).sh.inst (ntF P (t.fn v)) i.2).er)
        (fun i hi => cast0 hi.2.1 hi.2.2.2.2) (fun _ _ => rfl) (fun k i hi => ?_) (m + 1) ⟨l, x⟩ ⟨Nat.le_refl _, h, hd, rfl, hr⟩
      · exact this
      · obtain ⟨hk, h', hd', hrp, hi⟩ := hi
        rw [castL h' hd', hrp, evL_loop hc] at hi
        have hkm : k < m + 1 := hk
        have h1 := (evM_ok hmix (ha _ (means k hkm) v) (knows k hkm) hf fuel).1 _ _ hi
        have e0 : codeAt P t v (0 :: (t.lb l).rp) = c := by show chC (codeAt P t v (t.lb l).rp) 0 = c; rw [hc]; rfl
        rw [e0] at h1
        refine W_mono h1 fun e st hq => ?_
        cases e with
        | normal =>
          rw [QP_loopN hc] at hq
          obtain ⟨l', x', h2, h3, h4, ⟨h5, m', h6, h9, h7⟩, h8⟩ := hq
          exact ⟨m', ⟨l', x'⟩, h6, ⟨by omega, h5, h9, h2, h7⟩, h8⟩
        | _ =>
          rw [QP_loopE hc (by simp)] at hq
          exact QP_mono (fun l x ⟨h, m', h1, h2⟩ => ⟨h, m', by omega, h2⟩) _ _ _ hq
    · rw [castL h hd, evL_not (fun c h => hc ⟨c, h⟩)] at hr
      have h1 := (evM_ok hmix (ha _ (means m (Nat.lt_succ_self m)) v) (knows m (Nat.lt_succ_self m)) hf fuel).2.1 _ _ hr
      exact W_mono h1 fun e st hq => QP_mono (fun l x ⟨h, m', h1, h2⟩ => ⟨h, m', by omega, h2⟩) _ _ _ hq
theorem ev_means (hmix : P.follows .mixedOrders = true) (hfn : ∀ l v, (t.lb l).v = v → t.hd l = false → ∃ fn, P.funcs[t.fn v]? = some fn) (hh : ∀ l x r, t.hd l = true → hand ⟨l, x⟩ = some r → MeanH P t l x r) (ha : ∀ g, Means P t g → ∀ v rp i o s, Sound P o s (acts g v rp i o s)) : Means P t (fixD (EVB P t hand acts fuel)) := fun l x r hr hrp => by
  obtain ⟨n, hn⟩ := fix_rec hr
  cases hd : t.hd l with
  | true => exact .inr (hh l x r hd (castH hd hn))
  | false =>
    have := ev_ok hmix hfn hh ha n l x _ rfl r hd hn
    rw [hrp] at this
    exact .inl this
end
end Go.Proofs.YtcmpcbpdnaodmaaDoor
namespace Go.Proofs.YtcmpcbpdnaodmaaDoor
open Go.RowKit
set_option linter.unusedVariables false
variable {B : Tab} {P : Program}
def C1.ren (ν : Nat → Nat) : C1 B → C1 B
  | .ref i => .ref (ν i)
  | .ptr i o => .ptr (ν i) o
  | .ifc t i o => .ifc t (ν i) o
  | .rptr i p q => .rptr (ν i) p q
  | .ob i => .ob (ν i)
  | x => x
def V2.ren (ν : Nat → Nat) : V2 B → V2 B
  | .c x => .c (x.ren ν)
  | .agg cs => .agg (cs.map (C1.ren ν))
def TV.ren (ν : Nat → Nat) : TV B → TV B
  | .v x => .v (x.ren ν)
  | .tup cs => .tup (cs.map (V2.ren ν))
def TB.ren (ν : Nat → Nat) : TB B → TB B
  | .box ty cs => .box ty (cs.map (C1.ren ν))
  | b => b
theorem C1.ren_er (ν : Nat → Nat) (x : C1 B) : (x.ren ν).er = ren1 ν x.er := by cases x <;> rfl
theorem V2.ren_er (ν : Nat → Nat) (x : V2 B) : (x.ren ν).er = ren2 ν x.er := by
  cases x with
  | c x => cases x <;> rfl
  | agg cs =>
    show A.agg ((cs.map (C1.ren ν)).map C1.er) = A.agg ((cs.map C1.er).map (ren1 ν))
    rw [List.map_map, List.map_map]
    congr 1
    exact List.map_congr_left fun x _ => C1.ren_er ν x
theorem TV.ren_er (ν : Nat → Nat) (x : TV B) : (x.ren ν).er = ren3 ν x.er := by
  cases x with
  | v x =>
    cases x with
    | c x => cases x <;> rfl
    | agg cs => exact V2.ren_er ν (.agg cs)
  | tup cs =>
    show A.tup ((cs.map (V2.ren ν)).map V2.er) = A.tup ((cs.map V2.er).map (ren2 ν))
    rw [List.map_map, List.map_map]
    congr 1
    exact List.map_congr_left fun x _ => V2.ren_er ν x
theorem TB.ren_er (ν : Nat → Nat) (b : TB B) : (b.ren ν).er = b.er.ren ν := by
  cases b with
  | box ty cs =>
    show Blk.box ty ((cs.map (C1.ren ν)).map C1.er) = Blk.box ty ((cs.map C1.er).map (ren1 ν))
    rw [List.map_map, List.map_map]
    congr 1
    exact List.map_congr_left fun x _ => C1.ren_er ν x
  | _ => rfl
def backT (v : IOV) : List (Nat × TB B) → List (Nat × Option (TB B))
  | [] => []
  | p :: l => (nuIO v p.1, some (p.2.ren (nuIO v))) :: backT v l
def goneT (ms : List (Nat × Option (TB B))) : List Nat → List (Nat × Option (TB B))
  | [] => []
  | j :: l => match usedB ms j with | true => (j, none) :: goneT ms l | false => goneT ms l
def TS.back (s : TS B) (v : IOV) (J : List Nat) (m' : List (Nat × TB B)) : TS B := ⟨s.n, s.es, backT v m' ++ (goneT s.ms J ++ s.ms)⟩
theorem backT_er (v : IOV) : ∀ l : List (Nat × TB B), (backT v l).map (fun p => (p.1, p.2.map TB.er)) = backM v (erM l)
  | [] => rfl
  | p :: l => by
    show (nuIO v p.1, some (p.2.ren (nuIO v)).er) :: (backT v l).map _ = (nuIO v p.1, some (p.2.er.ren (nuIO v))) :: backM v (erM l)
    rw [backT_er v l, TB.ren_er]
theorem goneT_er (s : TS B) : ∀ l : List Nat, (goneT s.ms l).map (fun p => (p.1, p.2.map TB.er)) = goneM s.er.ms l
  | [] => rfl
  | j :: l => by
    unfold goneT goneM
    rw [used_er]
    cases usedB s.ms j with
    | true => show (j, none) :: (goneT s.ms l).map _ = (j, none) :: goneM s.er.ms l; rw [goneT_er s l]
    | false => exact goneT_er s l
theorem back_er (s : TS B) (v : IOV) (J : List Nat) (m' : List (Nat × TB B)) : (s.back v J m').er = s.er.back v J (erM m') := by
  show LS.mk _ _ ((backT v m' ++ (goneT s.ms J ++ s.ms)).map _) = LS.mk _ _ _
  rw [List.map_append, List.map_append, backT_er, goneT_er]
  rfl
theorem io_of {f : FuncId} {args : List A} {m m' : List (Nat × Blk)} {r : A} (hk : okFn P f args.length = true) (h9 : Nat.ble (ntF P f) 900 = true)
    (h : W P (bodyC P f) (LS.mk (ntF P f) (entE 0 args) (someMs m)).st fun e st => ∃ fn, P.funcs[f]? = some fn ∧ retIO P fn r m' e st) : FnIO P f args m r m' := by
  unfold okFn at hk
  split at hk
  · rename_i fn hf
    split at hk
    · rename_i c hb
      simp only [Bool.and_eq_true] at hk
      have e2 : ntF P f = fn.ntmps := by unfold ntF; rw [hf]
      have e1 : bodyC P f = c := by unfold bodyC; rw [hf]; simp only [hb]
      rw [e2] at h9
      rw [e1, e2] at h
      refine fn_ioX hf hb hk.1 (Nat.le_of_ble_eq_true hk.2) (Nat.le_of_ble_eq_true h9) (W_mono h fun e st ⟨fn', hf', hr⟩ => ?_)
      rw [hf] at hf'
      cases hf'
      exact hr
    · cases hk
  · cases hk
def slots (i : Nat) : List (Nat × SV) → Bool
  | [] => true
  | p :: l => Nat.beq p.1 i && slots (i + 1) l
theorem slots_er : ∀ {l : List (Nat × SV)} {i : Nat} (x : SLt B l), slots i l = true → (SLinst l x).map (fun p => (p.1, p.2.er)) = entE i (argI l x)
  | [], _, _, _ => rfl
  | p :: l, i, x, h => by
    simp only [slots, Bool.and_eq_true] at h
    show (p.1, (p.2.inst x.1).er) :: (SLinst l x.2).map _ = (i, (p.2.inst x.1).er) :: entE (i + 1) (argI l x.2)
    rw [slots_er x.2 h.2, beq_t h.1]
variable {t : LT}
theorem mean_io {l : Nat} {x : Vars B (t.lb l).sh} {r : Res B (t.rh (t.lb l).v)} (h : Mean P t l x r) (hs : slots 0 (t.lb l).sh.sl = true) (hk : okFn P (t.fn (t.lb l).v) (argI (t.lb l).sh.sl x.1).length = true) (h9 : Nat.ble (ntF P (t.fn (t.lb l).v)) 900 = true) :
    FnIO P (t.fn (t.lb l).v) (argI (t.lb l).sh.sl x.1) (erM (memI (t.lb l).sh x)) (resI (t.rh (t.lb l).v) r) (erM (resM (t.rh (t.lb l).v) r)) := by
  refine io_of hk h9 ?_
  have e : ((t.lb l).sh.inst (ntF P (t.fn (t.lb l).v)) x).er = LS.mk (ntF P (t.fn (t.lb l).v)) (entE 0 (argI (t.lb l).sh.sl x.1)) (someMs (erM (memI (t.lb l).sh x))) := by
    show LS.mk _ _ ((someT (memI (t.lb l).sh x)).map _) = _
    rw [someT_er]
    congr 1
    exact slots_er x.1 hs
  unfold Mean at h
  rw [e] at h
  exact h
end Go.Proofs.YtcmpcbpdnaodmaaDoor
namespace Go.Proofs.YtcmpcbpdnaodmaaDoor
open Go.RowKit
set_option linter.unusedVariables false
variable {B : Tab} {P : Program}
def onlyB (J : List Nat) : List (Nat × Option (TB B)) → List (Nat × Option (TB B))
  | [] => []
  | p :: l => match memN J p.1 with | true => p :: onlyB J l | false => onlyB J l
theorem lkB_only (J : List Nat) (i : Nat) : ∀ ms : List (Nat × Option (TB B)), lkB (onlyB J ms) i = match memN J i with | true => lkB ms i | false => none
  | [] => by show none = _; cases memN J i <;> rfl
  | p :: l => by
    have ih := lkB_only J i l
    obtain ⟨a, b⟩ := p
    unfold onlyB
    cases h : memN J a with
    | true =>
      show (match Nat.beq i a with | true => some b | false => lkB (onlyB J l) i) = (match memN J i with | true => (match Nat.beq i a with | true => some b | false => lkB l i) | false => none)
      cases hi : Nat.beq i a with
      | true => rw [beq_t hi, h]
      | false => simp only; rw [ih]
    | false =>
      simp only
      rw [ih]
      show _ = (match memN J i with | true => (match Nat.beq i a with | true => some b | false => lkB l i) | false => none)
      cases hi : Nat.beq i a with
      | true => rw [beq_t hi, h]
      | false => rfl
theorem getB_only (J : List Nat) (i : Nat) (ms : List (Nat × Option (TB B))) : getB (onlyB J ms) i = match memN J i with | true => getB ms i | false => none := by
  unfold getB
  rw [lkB_only]
  cases memN J i <;> rfl
theorem only_er (J : List Nat) (s : TS B) : (fun j => (getB (onlyB J s.ms) j).map TB.er) = onlyM J s.er.ms := by
  funext j
  unfold onlyM
  rw [getB_only, mem_er]
  cases memN J j <;> rfl
def ALpack (v : CC) (ms : List (Nat × Option (TB B))) (sp : List (Nat × Nat × NilTo)) : Nat → (l : List (Nat × SV)) → List (V2 B) → Option (SLt B l)
  | _, [], [] => some ()
  | i, p :: l, a :: vs => (match p.2.pack v ms sp i a, ALpack v ms sp (i + 1) l vs with | some x, some r => some (x, r) | _, _ => none)
  | _, _, _ => none
theorem ALpack_ok {v : IOV} {J : List Nat} {s : TS B} : ∀ {l : List (Nat × SV)} {i : Nat} {vs : List (V2 B)} {x : SLt B l}, ALpack v.cc (onlyB J s.ms) v.N i l vs = some x → ioArgs v (onlyM J s.er.ms) i (vs.map V2.er) = some (argI l x)
  | [], _, [], _, _ => rfl
  | [], _, _ :: _, _, h => by cases h
  | _ :: _, _, [], _, h => by cases h
  | p :: l, i, a :: vs, x, h => by
    replace h : (match p.2.pack v.cc (onlyB J s.ms) v.N i a, ALpack v.cc (onlyB J s.ms) v.N (i + 1) l vs with | some x, some r => some (x, r) | _, _ => none) = some x := h
    split at h
    · rename_i y r h1 h2
      cases h
      have e2 := SV.pack_ok h1
      rw [only_er] at e2
      have ih := ALpack_ok h2
      show (match ioArg v (onlyM J s.er.ms) i a.er, ioArgs v (onlyM J s.er.ms) (i + 1) (vs.map V2.er) with | some x, some r => some (x :: r) | _, _ => none) = some ((p.2.inst y).er :: argI l r)
      have e3 : ioArg v (onlyM J s.er.ms) i a.er = some (p.2.inst y).er := by
        cases a with
        | agg cs =>
          show (match ioCs v (onlyM J s.er.ms) v.N i 0 (cs.map C1.er) with | some r => some (A.agg r) | none => none) = _
          rw [ioCs_cc]
          exact e2
        | c c =>
          have e4 : ioArg v (onlyM J s.er.ms) i c.er = ioL v (onlyM J s.er.ms) (nilTo v.N i 0) c.er := by cases c <;> rfl
          have e5 : cv2 v.cc (onlyM J s.er.ms) v.N i c.er = cvL v.cc (onlyM J s.er.ms) (nilTo v.N i 0) c.er := by cases c <;> rfl
          show ioArg v (onlyM J s.er.ms) i c.er = _
          rw [e4, ioL_cc, ← e5]
          exact e2
      rw [e3, ih]
    · cases h
theorem ALpack_in {v : CC} {ms : List (Nat × Option (TB B))} {M : List (Nat × Blk)} (hs : Src v ms M) {sp : List (Nat × Nat × NilTo)} : ∀ {l : List (Nat × SV)} {i : Nat} {vs : List (V2 B)} {x : SLt B l}, ALpack v ms sp i l vs = some x → RowsIn M (SLrows l x)
  | [], _, _, _, _ => fun p hp => by cases hp
  | _ :: _, _, [], _, h => by cases h
  | p :: l, i, a :: vs, x, h => by
    replace h : (match p.2.pack v ms sp i a, ALpack v ms sp (i + 1) l vs with | some x, some r => some (x, r) | _, _ => none) = some x := h
    split at h
    · rename_i y r h1 h2
      cases h
      exact (SV.pack_in hs h1).app (ALpack_in hs h2)
    · cases h
def BApack (v : CC) (ms : List (Nat × Option (TB B))) (sp : List (Nat × Nat × NilTo)) : (l : List MB) → List (Nat × Nat) → Option (BXt B l)
  | [], [] => some ()
  | m :: l, p :: js => (match Nat.beq p.2 m.id, m.pack v ms sp (getB ms p.1), BApack v ms sp l js with | true, some x, some r => some (x, r) | _, _, _ => none)
  | _, _ => none
theorem BApack_ok {v : IOV} {J : List Nat} {s : TS B} : ∀ {l : List MB} {js : List (Nat × Nat)} {x : BXt B l}, BApack v.cc (onlyB J s.ms) v.M l js = some x → ioB v (onlyM J s.er.ms) js = some (erM (BXinst l x))
  | [], [], _, _ => rfl
  | [], _ :: _, _, h => by cases h
  | _ :: _, [], _, h => by cases h
  | m :: l, p :: js, x, h => by
    replace h : (match Nat.beq p.2 m.id, m.pack v.cc (onlyB J s.ms) v.M (getB (onlyB J s.ms) p.1), BApack v.cc (onlyB J s.ms) v.M l js with | true, some x, some r => some (x, r) | _, _, _ => none) = some x := h
    split at h
    · rename_i y r hid h1 h2
      cases h
      obtain ⟨ty, cs, cs', e1, e2, e3⟩ := MB.pack_ok h1
      rw [only_er] at e3
      have e4 : onlyM J s.er.ms p.1 = (getB (onlyB J s.ms) p.1).map TB.er := (congrFun (only_er J s) p.1).symm
      obtain ⟨j, i⟩ := p
      have hi : i = m.id := beq_t hid
      subst hi
      show (match onlyM J s.er.ms j with
        | some (.box ty cells) => (match ioCs v (onlyM J s.er.ms) v.M m.id 0 cells, ioB v (onlyM J s.er.ms) js with | some r, some rest => some ((m.id, Blk.box ty r) :: rest) | _, _ => none)
        | _ => none) = some ((m.id, (m.inst y).er) :: erM (BXinst l r))
      rw [e4, e1, BApack_ok h2, e2]
      show (match ioCs v (onlyM J s.er.ms) v.M m.id 0 (cs.map C1.er), some (erM (BXinst l r)) with | some r, some rest => some ((m.id, Blk.box ty r) :: rest) | _, _ => none) = _
      rw [ioCs_cc, e3]
    · cases h
theorem BApack_in {v : CC} {ms : List (Nat × Option (TB B))} {M : List (Nat × Blk)} (hs : Src v ms M) {sp : List (Nat × Nat × NilTo)} : ∀ {l : List MB} {js : List (Nat × Nat)} {x : BXt B l}, BApack v ms sp l js = some x → RowsIn M (BXrows l x)
  | [], _, _, _ => fun p hp => by cases hp
  | _ :: _, [], _, h => by cases h
  | m :: l, p :: js, x, h => by
    replace h : (match Nat.beq p.2 m.id, m.pack v ms sp (getB ms p.1), BApack v ms sp l js with | true, some x, some r => some (x, r) | _, _, _ => none) = some x := h
    split at h
    · rename_i y r hid h1 h2
      cases h
      exact (MB.pack_in hs h1).app (BApack_in hs h2)
    · cases h
theorem ioZ_eq : ∀ l : List (Nat × Nat × Nat), ioZ l = convZ l
  | [] => rfl
  | (i, e, k) :: l => by show (i, Blk.row e k []) :: ioZ l = (i, Blk.row e k []) :: convZ l; rw [ioZ_eq l]
theorem ioR_mem : ∀ {R : List (Nat × Nat)} {gm : Nat → Option Blk} {rs : List (Nat × Blk)} {j i : Nat} {b : Blk}, ioR gm R = some rs → (j, i) ∈ R → gm j = some b → (i, b) ∈ rs
  | (a, c) :: R, gm, rs, j, i, b, h, hm, hb => by
    unfold ioR at h
    rcases List.mem_cons.1 hm with he | hm
    · cases he
      rw [hb] at h
      cases b with
      | box => cases h
      | row e k xs =>
        simp only at h
        split at h
        · cases h; exact List.mem_cons_self
        · cases h
      | obj od =>
        simp only at h
        split at h
        · cases h; exact List.mem_cons_self
        · cases h
    · split at h
      · split at h
        · rename_i rest hr; cases h; exact List.mem_cons_of_mem _ (ioR_mem hr hm hb)
        · cases h
      · split at h
        · rename_i rest hr; cases h; exact List.mem_cons_of_mem _ (ioR_mem hr hm hb)
        · cases h
      · cases h
theorem ioR_ids : ∀ {R : List (Nat × Nat)} {gm : Nat → Option Blk} {rs : List (Nat × Blk)}, ioR gm R = some rs → rs.map (·.1) = R.map (·.2)
  | [], _, _, h => by cases h; rfl
  | (j, i) :: R, gm, rs, h => by
    unfold ioR at h
    split at h
    · split at h
      · rename_i rest hr; cases h; show i :: rest.map _ = i :: R.map _; rw [ioR_ids hr]
      · cases h
    · split at h
      · rename_i rest hr; cases h; show i :: rest.map _ = i :: R.map _; rw [ioR_ids hr]
      · cases h
    · cases h
end Go.Proofs.YtcmpcbpdnaodmaaDoor
namespace Go.Proofs.YtcmpcbpdnaodmaaDoor
open Go.RowKit
set_option linter.unusedVariables false
variable {B : Tab} {P : Program} {t : LT}
def resT (rh : Rh) (x : Res B rh) : TV B :=
  match RLinst rh.rs x.1 with
  | [y] => .v y
  | l => .tup l
theorem resT_er (rh : Rh) (x : Res B rh) : (resT rh x).er = resI rh x := by
  unfold resT resI
  match RLinst rh.rs x.1 with
  | [] => rfl
  | [y] => rfl
  | y :: z :: l => rfl
def bC : UV → C1 B → List (Nat × Nat)
  | .ptr id _, .ptr j _ => [(j, id)]
  | .ifc _ id _, .ifc _ j _ => [(j, id)]
  | _, _ => []
def bV : SV → V2 B → List (Nat × Nat)
  | .one u, .c c => bC u c
  | _, _ => []
def bAs : List (Nat × SV) → List (V2 B) → List (Nat × Nat)
  | p :: l, a :: vs => bV p.2 a ++ bAs l vs
  | _, _ => []
def hAs (B : Tab) : List (Nat × SV) → List (V2 B) → Hn
  | p :: l, a :: vs => (hV B p.1 p.2 a).add (hAs B l vs)
  | _, _ => h0
def hMc (s : TS B) (j : Nat) : MB → Hn
  | .box id _ l => (match getB s.ms j with | some (.box _ cs) => (hL B id 0 l cs).inM | _ => h0)
  | .st id _ i own base => (match getB s.ms j with | some (.box _ cs) => (hSt B id own base 0 (B.lv i) cs).inM | _ => h0)
def hBc (s : TS B) : List MB → List (Nat × Nat) → Hn
  | m :: l, p :: js => (hMc s p.1 m).add (hBc s l js)
  | _, _ => h0
def freshV (d : Option Nat) (b : List (Nat × Nat)) : Nat → List Nat → List (Nat × Nat)
  | _, [] => []
  | n, i :: l => (match rback b i with | some j => (i, j) :: freshV d b n l | none => (i, 1000000 + 1000 * (d.getD 0) + n) :: freshV d b (n + 1) l)
def vsOf : List (TV B) → Option (List (V2 B))
  | [] => some []
  | .v x :: l => (match vsOf l with | some r => some (x :: r) | none => none)
  | .tup _ :: _ => none
theorem vsOf_er : ∀ {l : List (TV B)} {vs : List (V2 B)}, vsOf l = some vs → vs.map V2.er = l.map TV.er
  | [], _, h => by cases h; rfl
  | .v x :: l, vs, h => by
    replace h : (match vsOf l with | some r => some (x :: r) | none => none) = some vs := h
    split at h
    · rename_i r hr; cases h; show x.er :: r.map _ = x.er :: l.map _; rw [vsOf_er hr]
    · cases h
  | .tup _ :: _, _, h => by cases h
def SV.ids : (l : List D) → SV → List Nat
  | _, .one (.own id _ _) => [id]
  | _, .one _ => []
  | _, .agg l => l.flatMap fun u => match u with | .own id _ _ => [id] | _ => []
  | _, .st i own base => own.map fun p => base + p.1
def ivOf (h : Hn) (b V : List (Nat × Nat)) : IOV := ⟨b, h.R, h.F, h.Z, h.N, h.M, V⟩
def callK (t : LT) (fin : TS B → Act B) (o : Oper) (s : TS B) (l : Nat) (h : Hn) (b : List (Nat × Nat)) (J : List Nat) (M0 : List (Nat × Blk)) (r : Res B (t.rh (t.lb l).v)) : Act B :=
  match tupOk (resI (t.rh (t.lb l).v) r) && ioBack (ivOf h b (freshV o.dst b 0 ((resM (t.rh (t.lb l).v) r).map (·.1)))) s.er o.dst M0 (erM (resM (t.rh (t.lb l).v) r)) with
  | true => fin ((s.back (ivOf h b (freshV o.dst b 0 ((resM (t.rh (t.lb l).v) r).map (·.1)))) J (resM (t.rh (t.lb l).v) r)).put o.dst ((resT (t.rh (t.lb l).v) r).ren (nuIO (ivOf h b (freshV o.dst b 0 ((resM (t.rh (t.lb l).v) r).map (·.1)))))))
  | false => .no
def callIO2 (P : Program) (t : LT) (fin : TS B → Act B) (g : (i : Ix B t) → Option (Bx B t i)) (o : Oper) (s : TS B) (f : FuncId) (l : Nat) (vs : List (V2 B)) (h : Hn) (b : List (Nat × Nat)) (J : List Nat) : Act B :=
  match ALpack (ivOf h b []).cc (onlyB J s.ms) h.N 0 (t.lb l).sh.sl vs, BApack (ivOf h b []).cc (onlyB J s.ms) h.M (t.lb l).sh.bx b with
  | some a, some bb =>
    (match ioR (onlyM J s.er.ms) h.R with
    | some rs =>
      (match (eqP (t.lb l).rp [] && Nat.beq (t.fn (t.lb l).v) f) && (slots 0 (t.lb l).sh.sl && (okFn P f (argI (t.lb l).sh.sl a).length && (Nat.ble (ntF P f) 900 && ((hasPtr (vs.map V2.er) || ((vs.map V2.er).flatMap ids3).isEmpty) &&
          (ioOk (ivOf h b []) J (sortM (erM (BXinst (t.lb l).sh.bx bb) ++ rs ++ ioZ h.Z)) && (nodupN ((t.lb l).sh.bx.map MB.id ++ (h.R.map (·.2) ++ h.Z.map (·.1))) && (nodupN ((memI (t.lb l).sh (a, bb)).map (·.1)) &&
            subN ((t.lb l).sh.bx.map MB.id ++ (h.R.map (·.2) ++ h.Z.map (·.1))) ((memI (t.lb l).sh (a, bb)).map (·.1)))))))))
        with
      | true => .bnd (g ⟨l, (a, bb)⟩) fun r => callK t fin o s l h b J (sortM (erM (BXinst (t.lb l).sh.bx bb) ++ rs ++ ioZ h.Z)) r
      | false => .no)
    | none => .no)
  | _, _ => .no
def callIO (P : Program) (t : LT) (g : (i : Ix B t) → Option (Bx B t i)) (o : Oper) (s : TS B) (c : Call) (f : FuncId) (l : Nat) : Act B :=
  match vsOf (c.args.toList.map s.ev) with
  | some vs => callIO2 P t (fun s' => .st s' true) g o s f l vs ((hAs B (t.lb l).sh.sl vs).add (hBc s (t.lb l).sh.bx (bAs (t.lb l).sh.sl vs))) (bAs (t.lb l).sh.sl vs) (reach s.er.st (vs.map V2.er))
  | none => .no
def recvV (P : Program) (s : TS B) (id off : Nat) : Rcv → Option (V2 B)
  | .ptr => some (.c (.ptr id off))
  | .val e => (match tinfo P e with
    | some ti => (match peekV s (.v (.c (.ptr id off))) ti with | some (.v x) => some x | _ => none)
    | none => none)
def callM (P : Program) (t : LT) (g : (i : Ix B t) → Option (Bx B t i)) (o : Oper) (s : TS B) (c : Call) (f : FuncId) (rv : V2 B) (l : Nat) : Act B :=
  match vsOf (c.args.toList.map s.ev) with
  | some vs => callIO2 P t .sem g o s f l (rv :: vs) ((hAs B (t.lb l).sh.sl (rv :: vs)).add (hBc s (t.lb l).sh.bx (bAs (t.lb l).sh.sl (rv :: vs)))) (bAs (t.lb l).sh.sl (rv :: vs)) (reach s.er.st ((rv :: vs).map V2.er))
  | none => .no
def isBoxB (s : TS B) (id : Nat) : Bool := match getB s.ms id with | some (.box _ _) => true | _ => false
def ifcOf (P : Program) (s : TS B) (x : Operand) (name : String) : Option (FuncId × V2 B) :=
  match s.ev x with
  | .v (.c (.ifc ty id off)) => (match isBoxB s id, methFn P ty name with
    | true, some (f, rc) => (match recvV P s id off rc with | some rv => some (f, rv) | none => none)
    | _, _ => none)
  | _ => none
end Go.Proofs.YtcmpcbpdnaodmaaDoor
namespace Go.Proofs.YtcmpcbpdnaodmaaDoor
open Go.RowKit
set_option linter.unusedVariables false
variable {B : Tab} {P : Program} {t : LT}
def IoTo (P : Program) (f : FuncId) (d : Option Nat) (s : LS) (evs : List A) (s' : LS) : Prop :=
  ∃ v cargs bs rs r m', FnIO P f cargs (sortM (bs ++ rs ++ ioZ v.Z)) r m' ∧ ioArgs v (onlyM (reach s.st evs) s.ms) 0 evs = some cargs ∧ ioB v (onlyM (reach s.st evs) s.ms) v.B = some bs ∧ ioR (onlyM (reach s.st evs) s.ms) v.R = some rs ∧
    tupOk r = true ∧ (hasPtr evs || (evs.flatMap ids3).isEmpty) = true ∧ ioOk v (reach s.st evs) (sortM (bs ++ rs ++ ioZ v.Z)) = true ∧ ioBack v s d (sortM (bs ++ rs ++ ioZ v.Z)) m' = true ∧ s' = (s.back v (reach s.st evs) m').put d (ren3 (nuIO v) r)
theorem callIO2_ok {g : (i : Ix B t) → Option (Bx B t i)} (hm : Means P t g) {o : Oper} {s : TS B} {f : FuncId} {l : Nat} {fin : TS B → Act B} {vs : List (V2 B)} {h : Hn} {b : List (Nat × Nat)}
    (hfin : ∀ s', IoTo P f o.dst s.er (vs.map V2.er) s'.er → Sound P o s (fin s')) : Sound P o s (callIO2 P t fin g o s f l vs h b (reach s.er.st (vs.map V2.er))) := by
    generalize hJ : reach s.er.st (vs.map V2.er) = J
    unfold callIO2
    split
    · rename_i a bb ha hb
      split
      · rename_i rs hrs
        split
        · rename_i hk
          intro r hr
          show Sound P o s (callK t fin o s l h b J _ r)
          unfold callK
          split
          · rename_i hk2
            simp only [Bool.and_eq_true, Bool.or_eq_true, List.isEmpty_iff] at hk hk2
            obtain ⟨⟨e1, e2⟩, e3, e4, e5, e6, e7, e8, e9, e10⟩ := hk
            have hf : t.fn (t.lb l).v = f := beq_t e2
            have hio := (hm l (a, bb) r hr (eqP_eq e1)).elim (fun hm => mean_io hm e3 (by rw [hf]; exact e4) (by rw [hf]; exact e5)) id
            rw [hf] at hio
            generalize hV : freshV o.dst b 0 ((resM (t.rh (t.lb l).v) r).map (·.1)) = V at hk2 ⊢
            have hbs : ioB (ivOf h b V) (onlyM J s.er.ms) (ivOf h b V).B = some (erM (BXinst (t.lb l).sh.bx bb)) := BApack_ok (v := ivOf h b V) hb
            have hal : Alike (erM (memI (t.lb l).sh (a, bb))) (sortM (erM (BXinst (t.lb l).sh.bx bb) ++ rs ++ ioZ h.Z)) := by
              have hR : rs.map (·.1) = h.R.map (·.2) := ioR_ids hrs
              have hsrc : Src (ivOf h b []).cc (onlyB J s.ms) (rs ++ convZ h.Z) := ⟨fun j i bl hm hg => List.mem_append.2 (.inl (ioR_mem hrs hm (by
                have := congrFun (only_er J s) j
                rw [← this]
                simp only [hg, Option.map_some]))), fun p hp => List.mem_append.2 (.inr hp)⟩
              have hin1 := ALpack_in hsrc ha
              have hin2 := BApack_in hsrc hb
              have hnd : ((erM (BXinst (t.lb l).sh.bx bb) ++ rs ++ ioZ h.Z).map (·.1)).Nodup := by
                have := nodupN_iff e8
                rw [List.map_append, List.map_append, erM_ids, BXinst_ids, hR, ioZ_eq, convZ_ids, List.append_assoc]
                exact this
              have h1 : Alike (erM (BXinst (t.lb l).sh.bx bb) ++ rs ++ ioZ h.Z) (erM (memI (t.lb l).sh (a, bb))) := by
                refine Alike.of hnd ?_ ?_ ?_
                · rw [erM_ids]; exact nodupN_iff e9
                · intro p hp
                  obtain ⟨q, hq, rfl⟩ := List.mem_map.1 hp
                  rcases List.mem_append.1 hq with hq | hq
                  · exact List.mem_append.2 (.inl (List.mem_append.2 (.inl (List.mem_map.2 ⟨q, hq, rfl⟩))))
                  · have : (q.1, q.2.er) ∈ rs ++ convZ h.Z := by
                      rcases List.mem_append.1 hq with hq | hq
                      · exact hin1 q hq
                      · exact hin2 q hq
                    rw [ioZ_eq, List.append_assoc]
                    exact List.mem_append.2 (.inr this)
                · intro i hi
                  rw [erM_ids]
                  refine memN_iff (List.all_eq_true.1 e10 i ?_)
                  rw [List.map_append, List.map_append, erM_ids, BXinst_ids, hR, ioZ_eq, convZ_ids, List.append_assoc] at hi
                  exact hi
              exact h1.symm.trans (Alike.perm (((sortM_perm _).map _).nodup_iff.2 hnd) (sortM_perm _)).symm
            have hio2 := fnio_alike hio hal ⟨rfl, fun _ => Iff.rfl⟩
            refine hfin _ ⟨ivOf h b V, argI (t.lb l).sh.sl a, erM (BXinst (t.lb l).sh.bx bb), rs, resI (t.rh (t.lb l).v) r, erM (resM (t.rh (t.lb l).v) r), hio2, ?_, ?_, ?_, hk2.1, ?_, ?_, ?_, ?_⟩
            · rw [hJ]; exact ALpack_ok (v := ivOf h b V) ha
            · rw [hJ]; exact hbs
            · rw [hJ]; exact hrs
            · simp only [Bool.or_eq_true, List.isEmpty_iff]; exact e6
            · rw [hJ]; exact e7
            · exact hk2.2
            · rw [put_er, back_er, TV.ren_er, resT_er, hJ]
          · trivial
        · trivial
      · trivial
    · trivial
theorem callIO_ok {g : (i : Ix B t) → Option (Bx B t i)} (hm : Means P t g) {o : Oper} {s : TS B} {c : Call} {f : FuncId} {l : Nat} (ho : o.op = .call c) (hc : c.callee = .value (.func f)) : Sound P o s (callIO P t g o s c f l) := by
  unfold callIO
  split
  · rename_i vs hvs
    have hev : c.args.toList.map s.er.st.ev = vs.map V2.er := by
      rw [vsOf_er hvs, List.map_map]
      exact List.map_congr_left fun x _ => ev_er s x
    refine callIO2_ok hm fun s' h => ?_
    obtain ⟨v, cargs, bs, rs, r, m', hio, h1, h2, h3, h4, h5, h6, h7, h8⟩ := h
    refine ⟨.io v r m', [FnIO P f cargs (sortM (bs ++ rs ++ ioZ v.Z)) r m'], ?_, ⟨hio, trivial⟩, fun _ => ?_, rfl⟩
    · unfold stepX
      simp only [ho, hc]
      rw [hev]
      have q3 : (tupOk r && (hasPtr (vs.map V2.er) || ((vs.map V2.er).flatMap ids3).isEmpty)) = true := by rw [h4, h5]; rfl
      rw [h1, h2, h3, q3]
      simp only
      rw [h6, h7, h8]
    · unfold looks
      simp only [ho, hc]
  · trivial
theorem recvV_er {s : TS B} {id off : Nat} {rc : Rcv} {rv : V2 B} (h : recvV P s id off rc = some rv) : (rc = .ptr → rv.er = .ptr id off) ∧ ∀ e, rc = .val e → ∃ ti, tinfo P e = some ti ∧ peek s.er.st (.ptr id off) ti = some rv.er := by
  cases rc with
  | ptr => cases h; exact ⟨fun _ => rfl, fun e he => (nomatch he)⟩
  | val e =>
    refine ⟨fun he => (nomatch he), fun e' he => ?_⟩
    cases he
    replace h : (match tinfo P e with
      | some ti => (match peekV s (.v (.c (.ptr id off))) ti with | some (.v x) => some x | _ => none)
      | none => none) = some rv := h
    split at h
    · rename_i ti hti
      split at h
      · rename_i x hx
        cases h
        exact ⟨ti, hti, peekV_er hx⟩
      · cases h
    · cases h
theorem callM_ok {g : (i : Ix B t) → Option (Bx B t i)} (hm : Means P t g) {o : Oper} {s : TS B} {c : Call} {x : Operand} {name : String} {f : FuncId} {rv : V2 B} {l : Nat} (ho : o.op = .call c) (hc : c.callee = .invoke x name) (hi : ifcOf P s x name = some (f, rv)) : Sound P o s (callM P t g o s c f rv l) := by
  unfold callM
  split
  · rename_i vs hvs
    have hev : c.args.toList.map s.er.st.ev = vs.map V2.er := by
      rw [vsOf_er hvs, List.map_map]
      exact List.map_congr_left fun x _ => ev_er s x
    unfold ifcOf at hi
    split at hi
    · rename_i ty id off hx
      split at hi
      · rename_i f' rc hbx hme
        split at hi
        · rename_i rv' hrv
          cases hi
          obtain ⟨r1, r2⟩ := recvV_er hrv
          refine callIO2_ok hm fun s' h => ?_
          obtain ⟨v, cargs, bs, rs, r, m', hio, h1, h2, h3, h4, h5, h6, h7, h8⟩ := h
          intro K hK
          obtain ⟨callee, args, ts⟩ := c
          cases hc
          refine op_invoke x name args ts ho ty id off (by rw [ev_er, hx]; rfl) ?_ f rc hme rv.er r1 r2 ?_
          · unfold isBoxB at hbx
            split at hbx
            · rename_i bt cs hg
              refine ⟨bt, cs.map C1.er, ?_⟩
              show getM s.er.ms id = _
              rw [mem_er, hg]; rfl
            · cases hbx
          · rw [show args.toList.map s.er.st.ev = vs.map V2.er from hev]
            refine io_ok h1 h2 h3 h4 (by simpa [List.isEmpty_iff] using h5) h6 h7 hio K ?_
            have : s'.er = _ := h8
            rw [← this]
            exact hK
        · cases hi
      · cases hi
    · cases hi
  · trivial
end Go.Proofs.YtcmpcbpdnaodmaaDoor
namespace Go.Proofs.YtcmpcbpdnaodmaaDoor
open Go.RowKit
set_option linter.unusedVariables false
variable {B : Tab} {P : Program} {t : LT}
def kOf : Option NilTo → Option Nat
  | some (.sl k) => some k
  | _ => none
def nsOf : List (Nat × Nat × NilTo) → Option (List (Nat × Nat × Nat))
  | [] => some []
  | (i, j, .sl k) :: l => (match nsOf l with | some r => some ((i, j, k) :: r) | none => none)
  | (_, _, .row _) :: _ => none
theorem nsOf_ok : ∀ {sp : List (Nat × Nat × NilTo)} {ns : List (Nat × Nat × Nat)}, nsOf sp = some ns → ∀ i j, nilAt ns i j = kOf (nilTo sp i j)
  | [], ns, h, i, j => by cases h; rfl
  | (a, b, .row k) :: l, ns, h, i, j => by cases h
  | (a, b, .sl k) :: l, ns, h, i, j => by
    replace h : (match nsOf l with | some r => some ((a, b, k) :: r) | none => none) = some ns := h
    split at h
    · rename_i r hr
      cases h
      unfold nilAt nilTo
      cases Nat.beq a i && Nat.beq b j with
      | true => rfl
      | false => exact nsOf_ok hr i j
    · cases h
def ccP (F : List Nat) : CC := ⟨[], F, [], fun _ => none⟩
theorem cvL_arg {F : List Nat} {s : LS} {nt : Option NilTo} {a z : A} (h : cvL (ccP F) (getM s.ms) nt a = some z) (hz : flat1 z = true) : nilT (kOf nt) (arg1 s.st a) = z := by
  cases a with
  | t x =>
    by_cases hx : x = .v (.slice none 0 0)
    · subst hx
      cases nt with
      | none => cases h; rfl
      | some w =>
        cases w with
        | sl k => cases h; rfl
        | row id => cases h
    · rw [cvL_t hx] at h
      cases h
      show nilT (kOf nt) (.t x) = .t x
      unfold nilT
      split
      · rename_i k e1 e2
        injection e2 with e3
        exact (hx e3).elim
      · rfl
  | ref j =>
    replace h : (match memN F j, getM s.ms j with | true, some (.row e k xs) => some (A.t (.sl k xs)) | _, _ => none) = some z := h
    split at h
    · rename_i e k xs h1 h2
      cases h
      have e1 : arg1 s.st (.ref j) = .t (.sl k xs) := by
        show (match getM s.ms j with | some (.row _ k xs) => A.t (.sl k xs) | _ => .ref j) = _
        rw [h2]
      rw [e1]
      cases kOf nt <;> rfl
    · cases h
  | ptr j o => cases h
  | ifc t j o => cases h
  | rptr j p q => cases h
  | ob j => cases h
  | fel x => cases h; cases hz
  | agg l => cases h
  | tup l => cases h
  | dead => cases h
theorem cvCs_arg {F : List Nat} {s : LS} {sp : List (Nat × Nat × NilTo)} {ns : List (Nat × Nat × Nat)} (hn : ∀ i j, nilAt ns i j = kOf (nilTo sp i j)) {i : Nat} : ∀ {l r : List A} {j : Nat}, cvCs (ccP F) (getM s.ms) sp i j l = some r → r.all flat1 = true → nilCells ns i j (l.map (arg1 s.st)) = r
  | [], r, j, h, _ => by cases h; rfl
  | a :: l, r, j, h, hf => by
    unfold cvCs at h
    split at h
    · rename_i x r' h1 h2
      cases h
      simp only [List.all_cons, Bool.and_eq_true] at hf
      show nilT (nilAt ns i j) (arg1 s.st a) :: nilCells ns i (j + 1) (l.map (arg1 s.st)) = _
      rw [hn, cvL_arg h1 hf.1, cvCs_arg hn h2 hf.2]
    · cases h
theorem nilArg_cell {ns : List (Nat × Nat × Nat)} {i : Nat} {x : A} (h : ∀ cs, x ≠ .agg cs) : nilArg ns i x = nilT (nilAt ns i 0) x := by
  cases x with
  | agg cs => exact (h cs rfl).elim
  | _ => rfl
theorem arg1_cell (s : LS) (c : C1 B) (cs : List A) : arg1 s.st c.er ≠ .agg cs := by
  cases c with
  | ref j =>
    show (match getM s.ms j with | some (.row _ k xs) => A.t (.sl k xs) | _ => .ref j) ≠ _
    split <;> (intro h; cases h)
  | _ => intro h; cases h
theorem ALpack_arg {F : List Nat} {s : TS B} {sp : List (Nat × Nat × NilTo)} {ns : List (Nat × Nat × Nat)} (hn : ∀ i j, nilAt ns i j = kOf (nilTo sp i j)) : ∀ {l : List (Nat × SV)} {i : Nat} {vs : List (V2 B)} {x : SLt B l},
    ALpack (ccP F) s.ms sp i l vs = some x → (argI l x).all flat2 = true → nilArgs ns i (vs.map fun a => arg2 s.er.st a.er) = argI l x
  | [], _, [], _, _, _ => rfl
  | [], _, _ :: _, _, h, _ => by cases h
  | _ :: _, _, [], _, h, _ => by cases h
  | p :: l, i, a :: vs, x, h, hf => by
    replace h : (match p.2.pack (ccP F) s.ms sp i a, ALpack (ccP F) s.ms sp (i + 1) l vs with | some x, some r => some (x, r) | _, _ => none) = some x := h
    split at h
    · rename_i y r h1 h2
      cases h
      replace hf : (((p.2.inst y).er :: argI l r).all flat2) = true := hf
      simp only [List.all_cons, Bool.and_eq_true] at hf
      have e2 := SV.pack_ok h1
      have e3 : (fun j => (getB s.ms j).map TB.er) = getM s.er.ms := by funext j; exact (mem_er s j).symm
      rw [e3] at e2
      show nilArg ns i (arg2 s.er.st a.er) :: nilArgs ns (i + 1) (vs.map fun a => arg2 s.er.st a.er) = (p.2.inst y).er :: argI l r
      rw [ALpack_arg hn h2 hf.2]
      congr 1
      cases a with
      | agg cs =>
        replace e2 : (match cvCs (ccP F) (getM s.er.ms) sp i 0 (cs.map C1.er) with | some r => some (A.agg r) | none => none) = some (p.2.inst y).er := e2
        split at e2
        · rename_i zs hz
          have e4 := Option.some.inj e2
          have hf1 := hf.1
          rw [← e4] at hf1
          rw [← e4]
          show A.agg (nilCells ns i 0 ((cs.map C1.er).map (arg1 s.er.st))) = A.agg zs
          rw [cvCs_arg hn hz hf1]
        · cases e2
      | c c =>
        have e5 : cv2 (ccP F) (getM s.er.ms) sp i c.er = cvL (ccP F) (getM s.er.ms) (nilTo sp i 0) c.er := by cases c <;> rfl
        have e6 : cvL (ccP F) (getM s.er.ms) (nilTo sp i 0) c.er = some (p.2.inst y).er := e5.symm.trans e2
        have hz : flat1 (p.2.inst y).er = true := by
          have hf1 := hf.1
          cases hzz : (p.2.inst y).er with
          | agg l =>
            rw [hzz] at e6
            exfalso
            unfold cvL at e6
            cases c with
            | d x =>
              simp only [C1.er] at e6
              split at e6
              · cases e6
              · split at e6 <;> cases e6
              · cases e6
            | _ => first | (simp only [C1.er] at e6; split at e6 <;> first | cases e6 | (split at e6 <;> cases e6)) | cases e6
          | _ => rw [hzz] at hf1; exact hf1
        have e7 := cvL_arg e6 hz
        have e8 : nilArg ns i (arg2 s.er.st c.er) = nilT (nilAt ns i 0) (arg1 s.er.st c.er) := by
          have : arg2 s.er.st c.er = arg1 s.er.st c.er := by cases c <;> rfl
          rw [this]
          exact nilArg_cell (arg1_cell s.er c)
        show nilArg ns i (arg2 s.er.st c.er) = _
        rw [e8, hn, e7]
    · cases h
def nilL {α : Type} : List α → Bool
  | [] => true
  | _ => false
theorem nilL_eq {α : Type} {l : List α} (h : nilL l = true) : l = [] := by cases l <;> first | rfl | cases h
def datU : (u : UV) → UVt B u → C1 B
  | .own _ _ d, x => .d (.l d x)
  | .dat d, x => .d (leafC d x)
  | .lit v, _ => .d (.t (.v v))
  | .ptr i o, _ => .ptr i o
  | .map i _ _, _ => .ob i
  | .fpd i, x => .d (.fp i x 0)
  | .ifc t i o, _ => .ifc t i o
  | .ifi t k, x => .d (.t (.v (.iface t (.int k x))))
def datL : (l : List UV) → ULt B l → List (C1 B)
  | [], _ => []
  | u :: l, x => datU u x.1 :: datL l x.2
def datV : (w : SV) → SVt B w → V2 B
  | .one u, x => .c (datU u x)
  | .agg l, x => .agg (datL l x)
  | .st i _ _, x => .agg ((celT (B.lv i) (B.cells i x)).map C1.d)
def datR : (l : List SV) → RLt B l → List (V2 B)
  | [], _ => []
  | w :: l, x => datV w x.1 :: datR l x.2
def noMapD : D → Bool
  | .map _ _ => false
  | _ => true
def noMapV (B : Tab) : SV → Bool
  | .st i _ _ => (B.lv i).all noMapD
  | _ => true
def HasR (st : St) (l : List (Nat × TB B)) : Prop := ∀ id e d xs, (id, TB.row e d xs) ∈ l → st.mem id = some (.row e (sz B d) (xs.map (enc B d)))
theorem HasR.app {st : St} {l r : List (Nat × TB B)} (h : HasR st (l ++ r)) : HasR st l ∧ HasR st r :=
  ⟨fun id e d xs hm => h id e d xs (List.mem_append.2 (.inl hm)), fun id e d xs hm => h id e d xs (List.mem_append.2 (.inr hm))⟩
theorem arg1_ref {st : St} {id e : Nat} {d : D} {xs : List (E B d)} (h : HasR st [(id, TB.row e d xs)]) : arg1 st (.ref id) = .t (.sl (sz B d) (xs.map (enc B d))) := by
  have := h id e d xs (List.mem_singleton.2 rfl)
  show (match st.mem id with | some (.row _ k xs) => A.t (.sl k xs) | _ => .ref id) = _
  rw [this]
theorem datU_er {st : St} : ∀ (u : UV) (x : UVt B u), HasR st (u.rows x) → arg1 st (u.inst x).er = (datU u x).er
  | .own id e d, x, h => arg1_ref h
  | .dat d, x, _ => rfl
  | .lit v, _, _ => rfl
  | .ptr i o, _, _ => rfl
  | .ifc t i o, _, _ => rfl
  | .ifi t k, _, _ => rfl
  | .map i _ _, _, _ => rfl
  | .fpd _, _, _ => rfl
theorem datL_er {st : St} : ∀ (l : List UV) (x : ULt B l), HasR st (ULrows l x) → ((ULinst l x).map C1.er).map (arg1 st) = (datL l x).map C1.er
  | [], _, _ => rfl
  | u :: l, x, h => by
    obtain ⟨h1, h2⟩ := HasR.app (show HasR st (u.rows x.1 ++ ULrows l x.2) from h)
    show arg1 st (u.inst x.1).er :: ((ULinst l x.2).map C1.er).map (arg1 st) = (datU u x.1).er :: (datL l x.2).map C1.er
    rw [datU_er u x.1 h1, datL_er l x.2 h2]
theorem stC_dat {st : St} {own : List (Nat × TypeId)} {base : Nat} : ∀ (l : List D) (c : Nat) (x : Tup B.toTab0 l), l.all noMapD = true → HasR st (stR own base c l x) → ((stC own base c l x).map C1.er).map (arg1 st) = ((celT l x).map C1.d).map C1.er
  | [], _, _, _, _ => rfl
  | d :: l, c, x, hm, h => by
    obtain ⟨h1, h2⟩ := HasR.app (show HasR st (stRow own base c d x.1 ++ stR own base (c + 1) l x.2) from h)
    simp only [List.all_cons, Bool.and_eq_true] at hm
    show arg1 st (stCell own base c d x.1).er :: ((stC own base (c + 1) l x.2).map C1.er).map (arg1 st) = (C1.d (leafC d x.1)).er :: ((celT l x.2).map C1.d).map C1.er
    rw [stC_dat l (c + 1) x.2 hm.2 h2]
    congr 1
    cases d with
    | sl k =>
      replace h1 : HasR st (match ownAt own c with | some e => [(base + c, TB.row e k x.1)] | none => []) := h1
      show arg1 st (match ownAt own c with | some _ => .ref (base + c) | none => .d (.l k x.1) : C1 B).er = _
      split
      · rename_i e he
        rw [he] at h1
        exact arg1_ref h1
      · rfl
    | map k d => cases hm.1
    | _ => rfl
theorem datV_er {st : St} (w : SV) (x : SVt B w) (hm : noMapV B w = true) (h : HasR st (w.rows x)) : arg2 st (w.inst x).er = (datV w x).er := by
  cases w with
  | one u =>
    have h1 := datU_er u x h
    show arg2 st (u.inst x).er = (datU u x).er
    rw [← h1]
    cases u <;> rfl
  | agg l => exact congrArg A.agg (datL_er l x h)
  | st i own base => exact congrArg A.agg (stC_dat _ 0 _ hm h)
theorem datR_er {st : St} : ∀ (l : List SV) (x : RLt B l), l.all (noMapV B) = true → HasR st (RLrows l x) → ((RLinst l x).map V2.er).map (arg2 st) = (datR l x).map V2.er
  | [], _, _, _ => rfl
  | w :: l, x, hm, h => by
    obtain ⟨h1, h2⟩ := HasR.app (show HasR st (w.rows x.1 ++ RLrows l x.2) from h)
    simp only [List.all_cons, Bool.and_eq_true] at hm
    show arg2 st (w.inst x.1).er :: ((RLinst l x.2).map V2.er).map (arg2 st) = (datV w x.1).er :: (datR l x.2).map V2.er
    rw [datV_er w x.1 hm.1 h1, datR_er l x.2 hm.2 h2]
def resD (rh : Rh) (x : Res B rh) : TV B :=
  match datR rh.rs x.1 with
  | [y] => .v y
  | l => .tup l
theorem arg3_tup (st : St) : ∀ l : List A, (∀ a ∈ l, ∀ cs, a ≠ .tup cs) → arg3 st (tupA l) = tupA (l.map (arg2 st))
  | [], _ => rfl
  | [y], h => by
    show arg3 st y = arg2 st y
    cases y with
    | tup cs => exact (h _ List.mem_cons_self cs rfl).elim
    | _ => rfl
  | y :: z :: l, _ => rfl
theorem resD_er {rh : Rh} {x : Res B rh} {st : St} (hm : rh.rs.all (noMapV B) = true) (h : HasR st (RLrows rh.rs x.1)) : arg3 st (resI rh x) = (resD rh x).er := by
  unfold resI
  rw [arg3_tup, datR_er rh.rs x.1 hm h]
  · unfold resD
    match datR rh.rs x.1 with
    | [] => rfl
    | [y] => rfl
    | y :: z :: l => rfl
  · intro a ha cs e
    obtain ⟨v, hv, rfl⟩ := List.mem_map.1 ha
    cases v with
    | c c => cases c <;> cases e
    | agg l => cases e
theorem hasR_mst {l : List (Nat × TB B)} (hn : nodupN (l.map (·.1)) = true) : HasR (mst (erM l)) l := fun id e d xs hm => by
  show look (erM l) id = _
  refine look_nodup (x := Blk.row e (sz B d) (xs.map (enc B d))) (by rw [erM_ids]; exact nodupN_iff hn) ?_
  exact List.mem_map.2 ⟨_, hm, rfl⟩
theorem resM_rows : ∀ {rh : Rh}, nilL rh.bx = true → ∀ x : Res B rh, resM rh x = RLrows rh.rs x.1
  | ⟨rs, []⟩, _, x => by
    show [] ++ (RLrows rs x.1 ++ []) = _
    rw [List.append_nil]; rfl
  | ⟨_, _ :: _⟩, h, _ => nomatch h
def callR (t : LT) (fin : Bool → TS B → Act B) (o : Oper) (s : TS B) (l : Nat) (refs : List Nat) (r : Res B (t.rh (t.lb l).v)) : Act B :=
  match nilL (t.rh (t.lb l).v).bx && (nodupN ((RLrows (t.rh (t.lb l).v).rs r.1).map (·.1)) && ((t.rh (t.lb l).v).rs.all (noMapV B) && (flat3 (resD (t.rh (t.lb l).v) r).er && (nilL refs || scal3 (resD (t.rh (t.lb l).v) r).er)))) with
  | true => fin (scal3 (resD (t.rh (t.lb l).v) r).er) (s.put o.dst (resD (t.rh (t.lb l).v) r))
  | false => .no
def callP2 (P : Program) (t : LT) (fin : Bool → TS B → Act B) (g : (i : Ix B t) → Option (Bx B t i)) (o : Oper) (s : TS B) (f : FuncId) (l : Nat) (vs : List (V2 B)) (h : Hn) : Act B :=
  match ALpack (ccP h.F) s.ms h.N 0 (t.lb l).sh.sl vs, BApack (ccP h.F) s.ms h.M (t.lb l).sh.bx [], nsOf h.N with
  | some a, some bb, some _ =>
    (match (eqP (t.lb l).rp [] && Nat.beq (t.fn (t.lb l).v) f) && (slots 0 (t.lb l).sh.sl && (okFn P f (argI (t.lb l).sh.sl a).length && (Nat.ble (ntF P f) 900 && (nilL (memI (t.lb l).sh (a, bb)) &&
        ((argI (t.lb l).sh.sl a).all flat2 && (vs.map fun x => arg2 s.er.st x.er).all flat2))))) with
    | true => .bnd (g ⟨l, (a, bb)⟩) fun r => callR t fin o s l ((vs.map V2.er).flatMap refs2) r
    | false => .no)
  | _, _, _ => .no
def callP (P : Program) (t : LT) (g : (i : Ix B t) → Option (Bx B t i)) (o : Oper) (s : TS B) (c : Call) (f : FuncId) (l : Nat) : Act B :=
  match vsOf (c.args.toList.map s.ev) with
  | some vs => callP2 P t (fun sc s' => .st s' sc) g o s f l vs (hAs B (t.lb l).sh.sl vs)
  | none => .no
theorem callP2_ok {g : (i : Ix B t) → Option (Bx B t i)} (hm : Means P t g) {o : Oper} {s : TS B} {f : FuncId} {l : Nat} {fin : Bool → TS B → Act B} {vs : List (V2 B)} {h : Hn}
    (hfin : ∀ (rd : TV B) (ns : List (Nat × Nat × Nat)), FnP P f (nilArgs ns 0 (vs.map fun x => arg2 s.er.st x.er)) rd.er → (vs.map fun x => arg2 s.er.st x.er).all flat2 = true → ((vs.map V2.er).flatMap refs2 = [] ∨ scal3 rd.er = true) → Sound P o s (fin (scal3 rd.er) (s.put o.dst rd))) : Sound P o s (callP2 P t fin g o s f l vs h) := by
  unfold callP2
  split
  · rename_i a bb ns ha hb hns
    split
    · rename_i hk
      intro r hr
      show Sound P o s (callR t fin o s l _ r)
      unfold callR
      split
      · rename_i hk2
        simp only [Bool.and_eq_true, Bool.or_eq_true] at hk hk2
        obtain ⟨⟨e1, e2⟩, e3, e4, e5, e6, e7, e8⟩ := hk
        obtain ⟨k0, k1, k4, k2, k3⟩ := hk2
        have hf : t.fn (t.lb l).v = f := beq_t e2
        have hio := (hm l (a, bb) r hr (eqP_eq e1)).elim (fun hm => mean_io hm e3 (by rw [hf]; exact e4) (by rw [hf]; exact e5)) id
        have hrm : resM (t.rh (t.lb l).v) r = RLrows (t.rh (t.lb l).v).rs r.1 := resM_rows k0 r
        rw [hf, nilL_eq e6, hrm] at hio
        have hP : FnP P f (argI (t.lb l).sh.sl a) (resD (t.rh (t.lb l).v) r).er := fnio_pure hio (resD_er k4 (hasR_mst k1)) k2
        have hargs := ALpack_arg (nsOf_ok hns) ha e7
        exact hfin _ ns (by rw [hargs]; exact hP) e8 (k3.imp_left nilL_eq)
      · trivial
    · trivial
  · trivial
theorem callP_ok {g : (i : Ix B t) → Option (Bx B t i)} (hm : Means P t g) {o : Oper} {s : TS B} {c : Call} {f : FuncId} {l : Nat} (ho : o.op = .call c) (hc : c.callee = .value (.func f)) : Sound P o s (callP P t g o s c f l) := by
  unfold callP
  split
  · rename_i vs hvs
    have hev : c.args.toList.map s.er.st.ev = vs.map V2.er := by
      rw [vsOf_er hvs, List.map_map]
      exact List.map_congr_left fun x _ => ev_er s x
    refine callP2_ok hm fun rd ns hP e8 k3 => ?_
    have hmap : (c.args.toList.map fun x => arg2 s.er.st (s.er.st.ev x)) = vs.map fun x => arg2 s.er.st x.er := by
      have := congrArg (List.map (arg2 s.er.st)) hev
      rw [List.map_map, List.map_map] at this
      exact this
    refine ⟨.call ns rd.er, [FnP P f (nilArgs ns 0 (vs.map fun x => arg2 s.er.st x.er)) rd.er], ?_, ⟨hP, trivial⟩, fun hl => ?_, rfl⟩
    · show stepX0 P o (.call ns rd.er) s.er = _
      unfold stepX0
      simp only [ho, hc]
      rw [hmap, hev, e8]
      rw [put_er]
      rcases k3 with k3 | k3
      · rw [k3]
      · rw [k3]
        split
        · rfl
        · rfl
        · rename_i h1 h2
          exact (h2 rfl rfl).elim
    · unfold looks
      simp only [ho, hc]
      exact hl
  · trivial
end Go.Proofs.YtcmpcbpdnaodmaaDoor
namespace Go.Proofs.YtcmpcbpdnaodmaaDoor
open Go.RowKit
set_option linter.unusedVariables false
variable {B : Tab} {P : Program} {t : LT}
def lookT (ms : List (Nat × Option (TB B))) : C1 B → Option (TC B)
  | .d x => some x
  | .ref j => (match getB ms j with | some (.row _ d xs) => some (.l d xs) | _ => none)
  | .ob j => (match getB ms j with | some (.map k d es) => some (.m k d es) | _ => none)
  | _ => none
def lookTs (ms : List (Nat × Option (TB B))) : List (C1 B) → Option (List (TC B))
  | [] => some []
  | c :: l => match lookT ms c, lookTs ms l with | some x, some r => some (x :: r) | _, _ => none
theorem lookTs_er {s : TS B} : ∀ {cs : List (C1 B)} {ts : List (TC B)}, lookTs s.ms cs = some ts → lookCs s.er.st (cs.map C1.er) = some (ts.map TC.er)
  | [], _, h => by cases h; rfl
  | c :: cs, ts, h => by
    unfold lookTs at h
    split at h
    · rename_i x r h1 h2
      cases h
      have e1 : lookC s.er.st c.er = some x.er := by
        unfold lookT at h1
        split at h1
        · cases h1; rfl
        · rename_i j
          split at h1
          · rename_i e d xs hg
            cases h1
            show (match getM s.er.ms j with | some (.row _ k xs) => some (T.sl k xs) | _ => none) = _
            rw [mem_er, hg]; rfl
          · cases h1
        · rename_i j
          split at h1
          · cases h1; rfl
          · cases h1
        · cases h1
      show (match lookC s.er.st c.er, lookCs s.er.st (cs.map C1.er) with | some x, some l => some (x :: l) | _, _ => none) = _
      rw [e1, lookTs_er h2]; rfl
    · cases h
def lookA1 (B : Tab) (ms : List (Nat × Option (TB B))) : SV → V2 B → Option (V2 B)
  | .one (.fpd i), .c (.ptr id 0) => (match getB ms id with
    | some (.box _ cs) => (match lookTs ms cs with
      | some ts => (match takT (B.lv i) ts with | some x => some (.c (.d (.fp i (B.put i x) 0))) | none => none)
      | none => none)
    | _ => none)
  | _, .c (.ptr _ _) => none
  | _, .agg cs => (match cs.all fun c => match c with | .ptr _ _ => false | _ => true with | true => some (.agg cs) | false => none)
  | _, a => some a
def lookAs (ms : List (Nat × Option (TB B))) : List (Nat × SV) → List (V2 B) → Option (List (V2 B))
  | [], [] => some []
  | p :: l, a :: vs => match lookA1 B ms p.2 a, lookAs ms l vs with | some x, some r => some (x :: r) | _, _ => none
  | _, _ => none
theorem look1_np {st : St} {c : C1 B} (h : ∀ i o, c ≠ .ptr i o) : look1 st c.er = arg1 st c.er := by
  cases c with
  | ptr i o => exact (h i o rfl).elim
  | _ => rfl
theorem lookA1_er {s : TS B} {w : SV} {a z : V2 B} (h : lookA1 B s.ms w a = some z) : look2 s.er.st a.er = arg2 s.er.st z.er := by
  unfold lookA1 at h
  split at h
  · rename_i i id
    split at h
    · rename_i ty cs hg
      split at h
      · rename_i ts hts
        split at h
        · rename_i x hx
          cases h
          show (match getM s.er.ms id with | some (.box _ cs) => (match lookCs s.er.st (cs.drop 0) with | some ts => A.t (.fp ts) | none => .ptr id 0) | _ => .ptr id 0) = A.t (.fp ((B.enc i (B.put i x)).drop 0))
          rw [mem_er, hg]
          show (match lookCs s.er.st (cs.map C1.er) with | some ts => A.t (.fp ts) | none => .ptr id 0) = _
          rw [lookTs_er hts, List.drop_zero, B.ok i x, takT_ok hx]
        · cases h
      · cases h
    · cases h
  · cases h
  · rename_i cs
    split at h
    · rename_i hk
      cases h
      show A.agg ((cs.map C1.er).map (look1 s.er.st)) = A.agg ((cs.map C1.er).map (arg1 s.er.st))
      rw [List.map_map, List.map_map]
      congr 1
      refine List.map_congr_left fun c hc => look1_np fun i o e => ?_
      have := List.all_eq_true.1 hk c hc
      rw [e] at this
      cases this
    · cases h
  · rename_i h0 h1 h2
    cases h
    cases a with
    | agg cs => exact (h1 cs rfl).elim
    | c c =>
      have hne : ∀ i o, c ≠ .ptr i o := fun i o e => h0 i o (by rw [e])
      have e1 : look2 s.er.st c.er = look1 s.er.st c.er := by cases c <;> rfl
      have e2 : arg2 s.er.st c.er = arg1 s.er.st c.er := by cases c <;> rfl
      show look2 s.er.st c.er = arg2 s.er.st c.er
      rw [e1, e2, look1_np hne]
theorem lookAs_er {s : TS B} : ∀ {l : List (Nat × SV)} {vs zs : List (V2 B)}, lookAs s.ms l vs = some zs → (vs.map fun a => look2 s.er.st a.er) = zs.map fun a => arg2 s.er.st a.er
  | [], [], _, h => by cases h; rfl
  | [], _ :: _, _, h => by cases h
  | _ :: _, [], _, h => by cases h
  | p :: l, a :: vs, zs, h => by
    unfold lookAs at h
    split at h
    · rename_i x r h1 h2
      cases h
      show look2 s.er.st a.er :: _ = arg2 s.er.st x.er :: _
      rw [lookA1_er h1, lookAs_er h2]
    · cases h
def callLR (t : LT) (o : Oper) (s : TS B) (l : Nat) (r : Res B (t.rh (t.lb l).v)) : Act B :=
  match nilL (t.rh (t.lb l).v).bx && (nodupN ((RLrows (t.rh (t.lb l).v).rs r.1).map (·.1)) && ((t.rh (t.lb l).v).rs.all (noMapV B) && (flat3 (resD (t.rh (t.lb l).v) r).er && scal3 (resD (t.rh (t.lb l).v) r).er))) with
  | true => .lo (s.put o.dst (resD (t.rh (t.lb l).v) r))
  | false => .no
def callL2 (P : Program) (t : LT) (g : (i : Ix B t) → Option (Bx B t i)) (o : Oper) (s : TS B) (f : FuncId) (l : Nat) (vs : List (V2 B)) (h : Hn) : Act B :=
  match ALpack (ccP h.F) s.ms h.N 0 (t.lb l).sh.sl vs, BApack (ccP h.F) s.ms h.M (t.lb l).sh.bx [], nsOf h.N with
  | some a, some bb, some _ =>
    (match (eqP (t.lb l).rp [] && Nat.beq (t.fn (t.lb l).v) f) && (slots 0 (t.lb l).sh.sl && (okFn P f (argI (t.lb l).sh.sl a).length && (Nat.ble (ntF P f) 900 && (nilL (memI (t.lb l).sh (a, bb)) &&
        ((argI (t.lb l).sh.sl a).all flat2 && (vs.map fun x => arg2 s.er.st x.er).all flat2))))) with
    | true => .bnd (g ⟨l, (a, bb)⟩) fun r => callLR t o s l r
    | false => .no)
  | _, _, _ => .no
def callL (P : Program) (t : LT) (g : (i : Ix B t) → Option (Bx B t i)) (o : Oper) (s : TS B) (c : Call) (f : FuncId) (l : Nat) : Act B :=
  match vsOf (c.args.toList.map s.ev) with
  | some vs => (match lookAs s.ms (t.lb l).sh.sl vs with
    | some zs => callL2 P t g o s f l zs (hAs B (t.lb l).sh.sl zs)
    | none => .no)
  | none => .no
theorem callL_ok {g : (i : Ix B t) → Option (Bx B t i)} (hm : Means P t g) {o : Oper} {s : TS B} {c : Call} {f : FuncId} {l : Nat} (ho : o.op = .call c) (hc : c.callee = .value (.func f)) : Sound P o s (callL P t g o s c f l) := by
  unfold callL
  split
  · rename_i vs0 hvs
    split
    · rename_i vs hzs
      have hev : c.args.toList.map s.er.st.ev = vs0.map V2.er := by
        rw [vsOf_er hvs, List.map_map]
        exact List.map_congr_left fun x _ => ev_er s x
      have hlook : (c.args.toList.map fun x => look2 s.er.st (s.er.st.ev x)) = vs.map fun x => arg2 s.er.st x.er := by
        have := congrArg (List.map (look2 s.er.st)) hev
        rw [List.map_map, List.map_map] at this
        exact this.trans (lookAs_er hzs)
      generalize hAs B (t.lb l).sh.sl vs = h
      unfold callL2
      split
      · rename_i a bb ns ha hb hns
        split
        · rename_i hk
          intro r hr
          show Sound P o s (callLR t o s l r)
          unfold callLR
          split
          · rename_i hk2
            simp only [Bool.and_eq_true] at hk hk2
            obtain ⟨⟨e1, e2⟩, e3, e4, e5, e6, e7, e8⟩ := hk
            obtain ⟨k0, k1, k4, k2, k3⟩ := hk2
            have hf : t.fn (t.lb l).v = f := beq_t e2
            have hio := (hm l (a, bb) r hr (eqP_eq e1)).elim (fun hm => mean_io hm e3 (by rw [hf]; exact e4) (by rw [hf]; exact e5)) id
            have hrm : resM (t.rh (t.lb l).v) r = RLrows (t.rh (t.lb l).v).rs r.1 := resM_rows k0 r
            rw [hf, nilL_eq e6, hrm] at hio
            have hP : FnP P f (argI (t.lb l).sh.sl a) (resD (t.rh (t.lb l).v) r).er := fnio_pure hio (resD_er k4 (hasR_mst k1)) k2
            have hargs := ALpack_arg (nsOf_ok hns) ha e7
            refine ⟨ns, (resD (t.rh (t.lb l).v) r).er, [FnP P f (nilArgs ns 0 (vs.map fun x => arg2 s.er.st x.er)) (resD (t.rh (t.lb l).v) r).er], ?_, ⟨by rw [hargs]; exact hP, trivial⟩, ?_⟩
            · unfold stepX
              simp only [ho, hc]
              rw [hlook, e8, k3, put_er]
              rfl
            · unfold looks
              simp only [ho, hc]
          · trivial
        · trivial
      · trivial
    · trivial
  · trivial
end Go.Proofs.YtcmpcbpdnaodmaaDoor
