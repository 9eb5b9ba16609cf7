/- Parts of the proof. -/
import Derived.Test.YtabmahknlebhpaaGreatVdEvH
namespace Go.Proofs.YtabmahknlebhpaaGreat
open Go.RowKit
set_option linter.unusedVariables false
variable {B : Tab} {P : Program} {t : LT}
def lookT (ms : List (Nat × Option (TB B))) : C1 B → Option (TC B)
  | .d x => some x
  | .ref j => (match getB ms j with | some (.row _ d xs) => some (.l d xs) | _ => none)
  | .ob j => (match getB ms j with | some (.map k d es) => some (.m k d es) | _ => none)
  | _ => none
def lookTs (ms : List (Nat × Option (TB B))) : List (C1 B) → Option (List (TC B))
  | [] => some []
  | c :: l => match lookT ms c, lookTs ms l with | some x, some r => some (x :: r) | _, _ => none
theorem lookTs_er {s : TS B} : ∀ {cs : List (C1 B)} {ts : List (TC B)}, lookTs s.ms cs = some ts → lookCs s.er.st (cs.map C1.er) = some (ts.map TC.er)
  | [], _, h => by cases h; rfl
  | c :: cs, ts, h => by
    unfold lookTs at h
    split at h
    · rename_i x r h1 h2
      cases h
      have e1 : lookC s.er.st c.er = some x.er := by
        unfold lookT at h1
        split at h1
        · cases h1; rfl
        · rename_i j
          split at h1
          · rename_i e d xs hg
            cases h1
            show (match getM s.er.ms j with | some (.row _ k xs) => some (T.sl k xs) | _ => none) = _
            rw [mem_er, hg]; rfl
          · cases h1
        · rename_i j
          split at h1
          · cases h1; rfl
          · cases h1
        · cases h1
      show (match lookC s.er.st c.er, lookCs s.er.st (cs.map C1.er) with | some x, some l => some (x :: l) | _, _ => none) = _
      rw [e1, lookTs_er h2]; rfl
    · cases h
def lookA1 (B : Tab) (ms : List (Nat × Option (TB B))) : SV → V2 B → Option (V2 B)
  | .one (.fpd i), .c (.ptr id 0) => (match getB ms id with
    | some (.box _ cs) => (match lookTs ms cs with
      | some ts => (match takT (B.lv i) ts with | some x => some (.c (.d (.fp i (B.put i x) 0))) | none => none)
      | none => none)
    | _ => none)
  | _, .c (.ptr _ _) => none
  | _, .agg cs => (match cs.all fun c => match c with | .ptr _ _ => false | _ => true with | true => some (.agg cs) | false => none)
  | _, a => some a
def lookAs (ms : List (Nat × Option (TB B))) : List (Nat × SV) → List (V2 B) → Option (List (V2 B))
  | [], [] => some []
  | p :: l, a :: vs => match lookA1 B ms p.2 a, lookAs ms l vs with | some x, some r => some (x :: r) | _, _ => none
  | _, _ => none
theorem look1_np {st : St} {c : C1 B} (h : ∀ i o, c ≠ .ptr i o) : look1 st c.er = arg1 st c.er := by
  cases c with
  | ptr i o => exact (h i o rfl).elim
  | _ => rfl
theorem lookA1_er {s : TS B} {w : SV} {a z : V2 B} (h : lookA1 B s.ms w a = some z) : look2 s.er.st a.er = arg2 s.er.st z.er := by
  unfold lookA1 at h
  split at h
  · rename_i i id
    split at h
    · rename_i ty cs hg
      split at h
      · rename_i ts hts
        split at h
        · rename_i x hx
          cases h
          show (match getM s.er.ms id with | some (.box _ cs) => (match lookCs s.er.st (cs.drop 0) with | some ts => A.t (.fp ts) | none => .ptr id 0) | _ => .ptr id 0) = A.t (.fp ((B.enc i (B.put i x)).drop 0))
          rw [mem_er, hg]
          show (match lookCs s.er.st (cs.map C1.er) with | some ts => A.t (.fp ts) | none => .ptr id 0) = _
          rw [lookTs_er hts, List.drop_zero, B.ok i x, takT_ok hx]
        · cases h
      · cases h
    · cases h
  · cases h
  · rename_i cs
    split at h
    · rename_i hk
      cases h
      show A.agg ((cs.map C1.er).map (look1 s.er.st)) = A.agg ((cs.map C1.er).map (arg1 s.er.st))
      rw [List.map_map, List.map_map]
      congr 1
      refine List.map_congr_left fun c hc => look1_np fun i o e => ?_
      have := List.all_eq_true.1 hk c hc
      rw [e] at this
      cases this
    · cases h
  · rename_i h0 h1 h2
    cases h
    cases a with
    | agg cs => exact (h1 cs rfl).elim
    | c c =>
      have hne : ∀ i o, c ≠ .ptr i o := fun i o e => h0 i o (by rw [e])
      have e1 : look2 s.er.st c.er = look1 s.er.st c.er := by cases c <;> rfl
      have e2 : arg2 s.er.st c.er = arg1 s.er.st c.er := by cases c <;> rfl
      show look2 s.er.st c.er = arg2 s.er.st c.er
      rw [e1, e2, look1_np hne]
theorem lookAs_er {s : TS B} : ∀ {l : List (Nat × SV)} {vs zs : List (V2 B)}, lookAs s.ms l vs = some zs → (vs.map fun a => look2 s.er.st a.er) = zs.map fun a => arg2 s.er.st a.er
  | [], [], _, h => by cases h; rfl
  | [], _ :: _, _, h => by cases h
  | _ :: _, [], _, h => by cases h
  | p :: l, a :: vs, zs, h => by
    unfold lookAs at h
    split at h
    · rename_i x r h1 h2
      cases h
      show look2 s.er.st a.er :: _ = arg2 s.er.st x.er :: _
      rw [lookA1_er h1, lookAs_er h2]
    · cases h
def callLR (t : LT) (o : Oper) (s : TS B) (l : Nat) (r : Res B (t.rh (t.lb l).v)) : Act B :=
  match nilL (t.rh (t.lb l).v).bx && (nodupN ((RLrows (t.rh (t.lb l).v).rs r.1).map (·.1)) && ((t.rh (t.lb l).v).rs.all (noMapV B) && (flat3 (resD (t.rh (t.lb l).v) r).er && scal3 (resD (t.rh (t.lb l).v) r).er))) with
  | true => .lo (s.put o.dst (resD (t.rh (t.lb l).v) r))
  | false => .no
def callL2 (P : Program) (t : LT) (g : (i : Ix B t) → Option (Bx B t i)) (o : Oper) (s : TS B) (f : FuncId) (l : Nat) (vs : List (V2 B)) (h : Hn) : Act B :=
  match ALpack (ccP h.F) s.ms h.N 0 (t.lb l).sh.sl vs, BApack (ccP h.F) s.ms h.M (t.lb l).sh.bx [], nsOf h.N with
  | some a, some bb, some _ =>
    (match (eqP (t.lb l).rp [] && Nat.beq (t.fn (t.lb l).v) f) && (slots 0 (t.lb l).sh.sl && (okFn P f (argI (t.lb l).sh.sl a).length && (Nat.ble (ntF P f) 900 && (nilL (memI (t.lb l).sh (a, bb)) &&
        ((argI (t.lb l).sh.sl a).all flat2 && (vs.map fun x => arg2 s.er.st x.er).all flat2))))) with
    | true => .bnd (g ⟨l, (a, bb)⟩) fun r => callLR t o s l r
    | false => .no)
  | _, _, _ => .no
def callL (P : Program) (t : LT) (g : (i : Ix B t) → Option (Bx B t i)) (o : Oper) (s : TS B) (c : Call) (f : FuncId) (l : Nat) : Act B :=
  match vsOf (c.args.toList.map s.ev) with
  | some vs => (match lookAs s.ms (t.lb l).sh.sl vs with
    | some zs => callL2 P t g o s f l zs (hAs B (t.lb l).sh.sl zs)
    | none => .no)
  | none => .no
theorem callL_ok {g : (i : Ix B t) → Option (Bx B t i)} (hm : Means P t g) {o : Oper} {s : TS B} {c : Call} {f : FuncId} {l : Nat} (ho : o.op = .call c) (hc : c.callee = .value (.func f)) : Sound P o s (callL P t g o s c f l) := by
  unfold callL
  split
  · rename_i vs0 hvs
    split
    · rename_i vs hzs
      have hev : c.args.toList.map s.er.st.ev = vs0.map V2.er := by
        rw [vsOf_er hvs, List.map_map]
        exact List.map_congr_left fun x _ => ev_er s x
      have hlook : (c.args.toList.map fun x => look2 s.er.st (s.er.st.ev x)) = vs.map fun x => arg2 s.er.st x.er := by
        have := congrArg (List.map (look2 s.er.st)) hev
        rw [List.map_map, List.map_map] at this
        exact this.trans (lookAs_er hzs)
      generalize hAs B (t.lb l).sh.sl vs = h
      unfold callL2
      split
      · rename_i a bb ns ha hb hns
        split
        · rename_i hk
          intro r hr
          show Sound P o s (callLR t o s l r)
          unfold callLR
          split
          · rename_i hk2
            simp only [Bool.and_eq_true] at hk hk2
            obtain ⟨⟨e1, e2⟩, e3, e4, e5, e6, e7, e8⟩ := hk
            obtain ⟨k0, k1, k4, k2, k3⟩ := hk2
            have hf : t.fn (t.lb l).v = f := beq_t e2
            have hio := (hm l (a, bb) r hr (eqP_eq e1)).elim (fun hm => mean_io hm e3 (by rw [hf]; exact e4) (by rw [hf]; exact e5)) id
            have hrm : resM (t.rh (t.lb l).v) r = RLrows (t.rh (t.lb l).v).rs r.1 := resM_rows k0 r
            rw [hf, nilL_eq e6, hrm] at hio
            have hP : FnP P f (argI (t.lb l).sh.sl a) (resD (t.rh (t.lb l).v) r).er := fnio_pure hio (resD_er k4 (hasR_mst k1)) k2
            have hargs := ALpack_arg (nsOf_ok hns) ha e7
            refine ⟨ns, (resD (t.rh (t.lb l).v) r).er, [FnP P f (nilArgs ns 0 (vs.map fun x => arg2 s.er.st x.er)) (resD (t.rh (t.lb l).v) r).er], ?_, ⟨by rw [hargs]; exact hP, trivial⟩, ?_⟩
            · unfold stepX
              simp only [ho, hc]
              rw [hlook, e8, k3, put_er]
              rfl
            · unfold looks
              simp only [ho, hc]
          · trivial
        · trivial
      · trivial
    · trivial
  · trivial
end Go.Proofs.YtabmahknlebhpaaGreat
