/- Parts of the proof. -/
import Derived.Test.YtcmpcbpdnaodmaaDoorLsXF
namespace Go.Proofs.YtcmpcbpdnaodmaaDoor
open Go.RowKit
set_option linter.unusedVariables false
variable {P : Program}
def isKeyB : TypeDesc → Value → Bool
  | .int _, .int k (_ : Int) => (match k with | .i64 => true | _ => false)
  | .string, .string _ => true
  | _, _ => false
theorem ba_beq (a b : ByteArray) : (a == b) = decide (a.data.toList = b.data.toList) := by
  obtain ⟨⟨a⟩⟩ := a
  obtain ⟨⟨b⟩⟩ := b
  show ((⟨a⟩ : Array UInt8) == ⟨b⟩) = decide (a = b)
  by_cases h : a = b
  · subst h; simp
  · simp [h]
def eqKey : Value → Value → Bool
  | .int _ a, .int _ b => decide (a = b)
  | .string a, .string b => decide (a.data.toList = b.data.toList)
  | _, _ => false
theorem eqKey_same {a b : Value} (h : eqKey a b = true) : ∀ kd, isKeyB kd a = true → isKeyB kd b = true → a = b := by
  intro kd ha hb
  unfold eqKey at h
  split at h
  · rename_i k a k' b
    have hab : a = b := by simpa using h
    subst hab
    cases kd with
    | int q => cases k <;> simp [isKeyB] at ha; cases k' <;> simp [isKeyB] at hb; rfl
    | _ => simp [isKeyB] at ha
  · rename_i a b
    have hab : a.data.toList = b.data.toList := by simpa using h
    have : a = b := by
      cases a; cases b; simp only [ByteArray.mk.injEq]
      exact Array.ext' hab
    rw [this]
  · cases h
theorem sameNow_eq {kd : TypeDesc} {k k' : Value} (h : isKeyB kd k = true) (h' : isKeyB kd k' = true) : Instr.sameNow kd k k' = some (eqKey k k') := by
  cases kd with
  | int q =>
    cases k with
    | int j a =>
      cases k' with
      | int j' b =>
        cases j <;> simp [isKeyB] at h
        cases j' <;> simp [isKeyB] at h'
        show (if IntKind.i64 = .i64 then some (a == b) else none) = some (decide (a = b))
        rw [if_pos rfl]
        congr 1
      | _ => simp [isKeyB] at h'
    | _ => simp [isKeyB] at h
  | string =>
    cases k with
    | string a =>
      cases k' with
      | string b =>
        show some (a == b) = some (decide (a.data.toList = b.data.toList))
        rw [ba_beq]
      | _ => simp [isKeyB] at h'
    | _ => simp [isKeyB] at h
  | _ => cases k <;> simp [isKeyB] at h
theorem findNow_spec {kd : TypeDesc} {k : Value} (hk : isKeyB kd k = true) : ∀ (l : List MapEntry) (i : Nat), (∀ e ∈ l, isKeyB kd e.key = true) →
    (Instr.findNow kd k l i = some none ∧ l.findIdx? (fun e => eqKey k e.key) = none) ∨ ∃ j e, Instr.findNow kd k l i = some (some (i + j, e.val)) ∧ l.findIdx? (fun e => eqKey k e.key) = some j ∧ l[j]? = some e
  | [], i, _ => .inl ⟨rfl, rfl⟩
  | e :: l, i, h => by
    have he := sameNow_eq hk (h e List.mem_cons_self)
    have ih := findNow_spec hk l (i + 1) fun x hx => h x (List.mem_cons_of_mem _ hx)
    cases hb : eqKey k e.key with
    | true =>
      refine .inr ⟨0, e, ?_, ?_, rfl⟩
      · unfold Instr.findNow
        rw [he, hb]; rfl
      · rw [List.findIdx?_cons, hb]; rfl
    | false =>
      rcases ih with ⟨h1, h2⟩ | ⟨j, e', h1, h2, h3⟩
      · refine .inl ⟨?_, ?_⟩
        · unfold Instr.findNow
          rw [he, hb]; exact h1
        · rw [List.findIdx?_cons, hb, h2]; rfl
      · refine .inr ⟨j + 1, e', ?_, ?_, by rw [List.getElem?_cons_succ]; exact h3⟩
        · unfold Instr.findNow
          rw [he, hb]
          show Instr.findNow kd k l (i + 1) = _
          rw [h1]; congr 3; omega
        · rw [List.findIdx?_cons, hb, h2]; rfl
theorem checkKey_run {kt : TypeId} {kd : TypeDesc} {k : Value} (hk : P.underlying kt = some kd) (h : isKeyB kd k = true) (e : Bool) (w : World) : (Instr.checkKey e 10000 kt k).run P w = .ok () w := by
  show (Instr.checkKey e (9999 + 1) kt k).run P w = _
  unfold Instr.checkKey
  rw [Sem.run_bind, run_underlying hk, Result.andThen_ok]
  cases kd with
  | int q => cases k <;> simp [isKeyB] at h <;> rfl
  | string => cases k <;> simp [isKeyB] at h; rfl
  | _ => cases k <;> simp [isKeyB] at h
theorem findKey_run {kt : TypeId} {kd : TypeDesc} {k : Value} {l : List MapEntry} {r : Option (Nat × Value)} (hk : P.underlying kt = some kd) (h : Instr.findNow kd k l 0 = some r) (w : World) : (Instr.findKey kt k l).run P w = .ok r w := by
  unfold Instr.findKey
  rw [Sem.run_bind, run_underlying hk, Result.andThen_ok, h]
  rfl
def EntRep (w : World) (M : Nat → Prop) (p : Value × List T) (e : MapEntry) : Prop :=
  e.key = p.1 ∧ e.val.cells.size = p.2.length ∧ (∀ j (hj : j < p.2.length) (hj' : j < e.val.cells.size), RepT w M (p.2[j]) (e.val.cells[j])) ∧ (p.2.length = 1 → e.val.oneCell' = true)
theorem EntRep.one {w : World} {M : Nat → Prop} {k : Value} {t : T} {e : MapEntry} (h : EntRep w M (k, [t]) e) : RepT w M t e.val ∧ e.val.oneCell' = true := by
  obtain ⟨_, h2, h3, h4⟩ := h
  have h5 := h4 rfl
  have h6 := cells_one h5
  have := h3 0 (by simp) (by rw [h6]; simp)
  simp only [h6, List.getElem_cons_zero] at this
  exact ⟨by simpa using this, h5⟩
theorem EntRep.mk1 {w : World} {M : Nat → Prop} {k : Value} {t : T} {v : Value} {b : Nat} (h : RepT w M t v) (h1 : v.oneCell' = true) : EntRep w M (k, [t]) { key := k, val := v, born := b } := by
  refine ⟨rfl, by rw [cells_one h1]; rfl, fun j hj hj' => ?_, fun _ => h1⟩
  have : j = 0 := by simpa using hj
  subst this
  simp only [cells_one h1, List.getElem_cons_zero]
  simpa using h
theorem repO_map {w : World} {M own : Nat → Prop} {b : Nat} {es : List (Value × List T)} {o : Obj} : RepO w M own b (.map es) o ↔ ∃ ents clock, o = .map ents clock ∧ ents.size = es.length ∧ (∀ i j (hi : i < ents.size) (hj : j < ents.size), (ents[i]).born = (ents[j]).born → i = j) ∧ (∀ i (hi : i < ents.size), (ents[i]).born < clock) ∧
      ∀ i (hi : i < es.length) (hi' : i < ents.size), EntRep w M (es[i]) (ents[i]) := Iff.rfl
def idxV (es : List (Value × List T)) (k : Value) : Option Nat := es.findIdx? fun p => eqKey k p.1
theorem idx_ents {w : World} {M : Nat → Prop} {k : Value} : ∀ {es : List (Value × List T)} {l : List MapEntry}, l.length = es.length → (∀ i (hi : i < es.length) (hi' : i < l.length), EntRep w M (es[i]) (l[i])) → l.findIdx? (fun e => eqKey k e.key) = idxV es k
  | [], [], _, _ => rfl
  | [], _ :: _, h, _ => by cases h
  | _ :: _, [], h, _ => by cases h
  | p :: es, e :: l, h, hr => by
    unfold idxV
    have h0 := (hr 0 (by simp) (by simp)).1
    simp only [List.getElem_cons_zero] at h0
    have ih := idx_ents (k := k) (es := es) (l := l) (by simpa using h) fun i hi hi' => by
      have := hr (i + 1) (by simpa using hi) (by simpa using hi')
      simpa using this
    rw [List.findIdx?_cons, List.findIdx?_cons, ih, h0]
    rfl
theorem findIdx_lt {α : Type} {p : α → Bool} : ∀ {l : List α} {i : Nat}, l.findIdx? p = some i → i < l.length
  | [], i, h => by cases h
  | x :: l, i, h => by
    rw [List.findIdx?_cons] at h
    split at h
    · cases h; simp
    · cases hl : l.findIdx? p with
      | none => rw [hl] at h; cases h
      | some j =>
        rw [hl] at h
        have := findIdx_lt hl
        simp only [Option.map_some, Option.some.injEq] at h
        subst h
        simp only [List.length_cons]; omega
def lookA (ok : Bool) (r : Option T) (z : Value) : A :=
  match ok, r with
  | true, some t => .tup [.t t, aB true]
  | true, none => .tup [.t (.v z), aB false]
  | false, some t => .t t
  | false, none => .t (.v z)
def zeroOf (P : Program) (t : TypeId) : Option Value := (P.info? t).bind fun i => i.zero
theorem zero_run {t : TypeId} {z : Value} (h : zeroOf P t = some z) (w : World) : (zeroValue t).run P w = .ok z w := by
  unfold zeroOf at h
  obtain ⟨i, hi, hz⟩ := Option.bind_eq_some_iff.1 h
  simp [zeroValue, typeInfo, hi, hz]
def getV (es : List (Value × List T)) (k : Value) : Option T := match idxV es k with | some i => (match es[i]? with | some (_, [t]) => some t | _ => none) | none => none
theorem lookup_ob {o : Oper} {mt kt et : TypeId} {x y : Operand} {ok : Bool} {kd : TypeDesc} {z k : Value} {es : List (Value × List T)} (ho : o.op = .lookup mt x y ok) (hm : P.underlying mt = some (.map kt et)) (hk : P.underlying kt = some kd) (hz : zeroOf P et = some z) (hz1 : z.oneCell' = true)
    (hes : ∀ p ∈ es, isKeyB kd p.1 = true ∧ p.2.length = 1) (hkk : isKeyB kd k = true) : OwnSet P o 0 (.obj (.map es)) [.dead, .t (.v k)] (.obj (.map es)) (lookA ok (getV es k) z) := by
  intro st id K h1 h2 hmem hK C a w hP ⟨L, hs⟩ hd next Q hn
  have hL : opL o.op = [x, y] := by rw [ho]; rfl
  rw [hL] at h1 h2
  have hx : st.ev x = .ob id := by simpa [nameOf] using h1
  have hy : st.ev y = .t (.v k) := by simpa using h2
  obtain ⟨g, ob, hg, hw, hr, hv⟩ := obj_at hs hx hmem
  obtain ⟨ents, clock, rfl, hsz, hinj, hlt, hent⟩ := hr
  have hv' : a.eval x = .map (some g) := by rw [hv]; simp [Loc.ob, Od.isMap, hg]
  have hky : a.eval y = k := by have := ev_rep hs y; rw [hy] at this; exact rep_val this
  have hkeys : ∀ e ∈ ents.toList, isKeyB kd e.key = true := fun e he => by
    obtain ⟨i, hi, rfl⟩ := List.getElem_of_mem he
    have hi2 : i < es.length := by rw [← hsz]; simpa using hi
    have := (hent i hi2 (by simpa using hi)).1
    rw [Array.getElem_toList, this]
    exact (hes _ (List.getElem_mem hi2)).1
  have hidx := idx_ents (w := w) (M := Mut C st L) (k := k) (es := es) (l := ents.toList) (by simpa using hsz) fun i hi hi' => by
    have := hent i hi (by simpa using hi')
    rw [Array.getElem_toList]; exact this
  have hget : (getObj g).run P w = .ok (.map ents clock) w := by simp [getObj, Sem.run, hw]
  have key : ∃ v fo, RepA st L w (Mut C st L) (match getV es k with | some t => .t t | none => .t (.v z)) v ∧ fo = (getV es k).isSome ∧ (Instr.lookup mt (.map (some g)) k ok).run P w = .ok (if ok then .tuple #[v, .bool fo] else v) w := by
    rcases findNow_spec hkk ents.toList 0 hkeys with ⟨f1, f2⟩ | ⟨j, e, f1, f2, f3⟩
    · rw [hidx] at f2
      refine ⟨z, false, ?_, ?_, ?_⟩
      · unfold getV; rw [f2]; exact .t _ _ (.v _ hz1)
      · unfold getV; rw [f2]; rfl
      · simp [Instr.lookup, Sem.run_bind, run_underlying hm, hget, checkKey_run hk hkk, findKey_run hk f1, zero_run hz]
    · rw [hidx] at f2
      have hj : j < es.length := findIdx_lt f2
      have hj' : j < ents.size := by rw [hsz]; exact hj
      have hee : ents[j] = e := by
        rw [List.getElem?_eq_getElem (by simpa using hj')] at f3
        rw [← Array.getElem_toList]; exact Option.some.inj f3
      have h1' := (hes _ (List.getElem_mem hj)).2
      obtain ⟨t, ht⟩ := List.length_eq_one_iff.1 h1'
      have hp : es[j]? = some ((es[j]).1, [t]) := by rw [List.getElem?_eq_getElem hj, ← ht]
      have her : EntRep w (Mut C st L) ((es[j]).1, [t]) e := by rw [← hee, ← ht]; exact hent j hj hj'
      refine ⟨e.val, true, ?_, ?_, ?_⟩
      · unfold getV; rw [f2]; simp only [hp]; exact .t _ _ her.one.1
      · unfold getV; rw [f2]; simp only [hp]; rfl
      · simp [Instr.lookup, Sem.run_bind, run_underlying hm, hget, checkKey_run hk hkk, findKey_run hk f1]
  obtain ⟨v, fo, hrep, hfo, hrun⟩ := key
  have hset : st.setm id (.obj (.map es)) = st := by
    show St.mk _ _ _ _ = _
    have : upd st.mem id (some (.obj (.map es))) = st.mem := by
      funext i
      unfold upd
      split
      · rename_i e; rw [e, hmem]
      · rfl
    rw [this]
  refine wp_value (v := if ok then .tuple #[v, .bool fo] else v) (w' := w) ?_ (hn _ _ _ (by simp [St.setm]) hK ⟨L, ?_⟩)
  · unfold execOp
    simp only [ho, hv', hky, Sem.run_bind, hrun, Result.andThen_ok, Sem.run_pure]
  · rw [hset]
    refine hs.put _ hd ?_
    unfold lookA
    cases ok with
    | true =>
      cases hq : getV es k with
      | none =>
        rw [hq] at hrep hfo
        subst hfo
        exact .tup _ _ rfl fun i hi => match i, hi with
          | 0, _ => hrep
          | 1, _ => .t _ _ (.v _ rfl)
      | some t =>
        rw [hq] at hrep hfo
        subst hfo
        exact .tup _ _ rfl fun i hi => match i, hi with
          | 0, _ => hrep
          | 1, _ => .t _ _ (.v _ rfl)
    | false => cases hq : getV es k <;> (rw [hq] at hrep; exact hrep)
def setV (es : List (Value × List T)) (k : Value) (t : T) : List (Value × List T) := match idxV es k with | some i => es.set i (k, [t]) | none => es ++ [(k, [t])]
theorem stays_run {a b : Value} {kd : TypeDesc} (h : eqKey a b = true) (ha : isKeyB kd a = true) (hb : isKeyB kd b = true) (w : World) : (Instr.keyThatStays b a).run P w = .ok a w := by
  have e := eqKey_same h kd ha hb
  subst e
  unfold Instr.keyThatStays
  have : Instr.sameBits 10000 a a = true := by
    cases a with
    | int j n => cases j <;> first | (show (_ == _ && n == n) = true; simp) | (cases kd <;> simp [isKeyB] at ha)
    | string s => show (s == s) = true; rw [ba_beq]; simp
    | _ => cases kd <;> simp [isKeyB] at ha
  rw [if_pos this]
  rfl
theorem mapset_ob {o : Oper} {mt kt et : TypeId} {x y u : Operand} {kd : TypeDesc} {k : Value} {t : T} {es : List (Value × List T)} (ho : o.op = .mapUpdate mt x y u) (hm : P.underlying mt = some (.map kt et)) (hk : P.underlying kt = some kd)
    (hes : ∀ p ∈ es, isKeyB kd p.1 = true ∧ p.2.length = 1) (hkk : isKeyB kd k = true) : OwnSet P o 0 (.obj (.map es)) [.dead, .t (.v k), .t t] (.obj (.map (setV es k t))) .dead := by
  intro st id K h1 h2 hmem hK C a w hP ⟨L, hs⟩ hd next Q hn
  have hL : opL o.op = [x, y, u] := by rw [ho]; rfl
  rw [hL] at h1 h2
  have hx : st.ev x = .ob id := by simpa [nameOf] using h1
  have hyu : st.ev y = .t (.v k) ∧ st.ev u = .t t := by simpa using h2
  obtain ⟨g, ob, hg, hw, hr, hv⟩ := obj_at hs hx hmem
  obtain ⟨ents, clock, rfl, hsz, hinj, hlt, hent⟩ := hr
  have hv' : a.eval x = .map (some g) := by rw [hv]; simp [Loc.ob, Od.isMap, hg]
  have hky : a.eval y = k := by have := ev_rep hs y; rw [hyu.1] at this; exact rep_val this
  have hru : RepT w (Mut C st L) t (a.eval u) ∧ (a.eval u).oneCell' = true := by
    have := ev_rep hs u
    rw [hyu.2] at this
    refine ⟨?_, this.one rfl⟩
    generalize a.eval u = v at this
    cases this with
    | t _ _ h => exact h
  have hgl := (hs.out id g (by rw [hmem]; rfl) (.inl hg)).2.1
  have hkeys : ∀ e ∈ ents.toList, isKeyB kd e.key = true := fun e he => by
    obtain ⟨i, hi, rfl⟩ := List.getElem_of_mem he
    have hi2 : i < es.length := by rw [← hsz]; simpa using hi
    have := (hent i hi2 (by simpa using hi)).1
    rw [Array.getElem_toList, this]
    exact (hes _ (List.getElem_mem hi2)).1
  have hidx := idx_ents (w := w) (M := Mut C st L) (k := k) (es := es) (l := ents.toList) (by simpa using hsz) fun i hi hi' => by
    have := hent i hi (by simpa using hi')
    rw [Array.getElem_toList]; exact this
  have main : ∃ ents' clock', (Instr.mapUpdate mt (.map (some g)) k (a.eval u)).run P w = .ok () { w with heap := w.heap.setIfInBounds g (.map ents' clock') } ∧ RepO w (Mut C st L) (fun _ => False) g (.map (setV es k t)) (.map ents' clock') := by
    have hget : (getObj g).run P w = .ok (.map ents clock) w := by simp [getObj, Sem.run, hw]
    rcases findNow_spec hkk ents.toList 0 hkeys with ⟨f1, f2⟩ | ⟨j, e, f1, f2, f3⟩
    · rw [hidx] at f2
      refine ⟨ents.push { key := k, val := a.eval u, born := clock }, clock + 1, ?_, repO_map.2 ⟨_, _, rfl, ?_, ?_, ?_, ?_⟩⟩
      · unfold Instr.mapUpdate
        simp only [Sem.run_bind, run_underlying hm, Result.andThen_ok, hget, checkKey_run hk hkk, findKey_run hk f1]
        simp [setObj, Sem.run, hw]
      · unfold setV; rw [f2]; simp [hsz]
      · intro i j hi hj hb
        rw [Array.getElem_push, Array.getElem_push] at hb
        simp only [Array.size_push] at hi hj
        split at hb
        · rename_i h1
          split at hb
          · rename_i h2; exact hinj i j h1 h2 hb
          · have := hlt i h1; simp only at hb; omega
        · split at hb
          · rename_i h2; have := hlt j h2; simp only at hb; omega
          · omega
      · intro i hi
        rw [Array.getElem_push]
        split
        · rename_i h1; have := hlt i h1; omega
        · simp
      · intro i hi hi'
        have hse : setV es k t = es ++ [(k, [t])] := by unfold setV; rw [f2]
        simp only [hse]
        rw [Array.getElem_push]
        split
        · rename_i h1
          have h2 : i < es.length := by rw [← hsz]; exact h1
          rw [List.getElem_append_left h2]
          exact hent i h2 h1
        · rename_i h1
          have h2 : i = es.length := by simp only [Array.size_push] at hi'; omega
          subst h2
          rw [List.getElem_append_right (Nat.le_refl _)]
          simp only [Nat.sub_self, List.getElem_cons_zero]
          exact EntRep.mk1 hru.1 hru.2
    · rw [hidx] at f2
      have hj : j < es.length := findIdx_lt f2
      have hj' : j < ents.size := by rw [hsz]; exact hj
      have hje : ents[j]? = some e := by rw [← Array.getElem?_toList]; exact f3
      have hek : eqKey k e.key = true := by
        have := List.findIdx?_eq_some_iff_getElem.1 f2
        obtain ⟨h1, h2, _⟩ := this
        have hkey := (hent j hj hj').1
        have e1 : ents[j] = e := by rw [Array.getElem?_eq_getElem hj'] at hje; exact Option.some.inj hje
        rw [← e1, hkey]; exact h2
      refine ⟨ents.modify j fun e => { e with key := k, val := a.eval u }, clock, ?_, repO_map.2 ⟨_, _, rfl, ?_, ?_, ?_, ?_⟩⟩
      · unfold Instr.mapUpdate
        simp only [Sem.run_bind, run_underlying hm, Result.andThen_ok, hget, checkKey_run hk hkk, findKey_run hk f1, Nat.zero_add]
        have hkd : isKeyB kd e.key = true := hkeys e (List.mem_of_getElem? f3)
        have : ((ents[j]?).map (·.key)).getD k = e.key := by rw [hje]; rfl
        rw [this]
        simp only [stays_run hek hkk hkd, Result.andThen_ok]
        simp [setObj, Sem.run, hw]
      · unfold setV; rw [f2]; simp [hsz]
      · intro i i' hi hi' hb
        rw [Array.getElem_modify, Array.getElem_modify] at hb
        simp only [Array.size_modify] at hi hi'
        refine hinj i i' hi hi' ?_
        split at hb <;> split at hb <;> exact hb
      · intro i hi
        rw [Array.getElem_modify]
        simp only [Array.size_modify] at hi
        have := hlt i hi
        split <;> exact this
      · intro i hi hi'
        have hse : setV es k t = es.set j (k, [t]) := by unfold setV; rw [f2]
        simp only [hse]
        rw [Array.getElem_modify, List.getElem_set]
        simp only [Array.size_modify] at hi'
        have hi2 : i < es.length := by rw [← hsz]; exact hi'
        split
        · exact EntRep.mk1 hru.1 hru.2
        · exact hent i hi2 hi'
  obtain ⟨ents', clock', hrun, hrep⟩ := main
  have hw' : ({ w with heap := w.heap.setIfInBounds g (.map ents' clock') } : World).heap[g]? = some (.map ents' clock') := Array.getElem?_setIfInBounds_self_of_lt hgl
  refine wp_skipped (w' := { w with heap := w.heap.setIfInBounds g (.map ents' clock') }) ?_ (hn _ _ _ (by simp [St.setm]) hK ⟨L, (hs.seto (w' := { w with heap := w.heap.setIfInBounds g (.map ents' clock') }) id _ (.obj (.map (setV es k t))) hmem rfl g hg rfl rfl rfl (by simp) (fun q hq => by simp [Ne.symm hq]) ⟨g, .map ents' clock', hg, hw', ?_⟩).put _ (by simpa [St.setm] using hd) (.dead _)⟩)
  · unfold execOp
    simp only [ho, hv', hky, Sem.run_bind, hrun, Result.andThen_ok, Sem.run_pure]
  · refine hrep.move rfl ⟨by simp, fun q hq hm => ?_⟩ fun b _ hb => ?_
    · have : q ≠ g := fun e => hm (.inr ⟨id, by rw [hmem]; rfl, by rw [e]; exact .inl hg⟩)
      show (w.heap.setIfInBounds g _)[q]? = _
      simp [Ne.symm this]
    · rcases hb with hx | ⟨i, hsome, hli⟩
      · exact .inl hx
      · refine .inr ⟨i, ?_, hli⟩
        by_cases e : i = id
        · subst e; rw [hmem]; rfl
        · simpa [St.setm, upd, e] using hsome
theorem makemap_ob {o : Oper} {mt : TypeId} (ho : o.op = .makeMap mt none) : NewObj P o [] (.map []) := by
  intro w M ρ _ hl h
  refine ⟨.map #[] 0, w, rfl, rfl, rfl, rfl, repO_map.2 ⟨#[], 0, rfl, rfl, fun i j hi => by simp at hi, fun i hi => by simp at hi, fun i hi => by simp at hi⟩, rfl, ?_⟩
  unfold execOp
  simp only [ho, Sem.run_bind]
  rfl
end Go.Proofs.YtcmpcbpdnaodmaaDoor
namespace Go.Proofs.YtcmpcbpdnaodmaaDoor
open Go.RowKit
set_option linter.unusedVariables false
variable {C : Ctx} {st st' : St} {a : Act} {w : World} {P : Program}
inductive Rcv where
  | ptr
  | val (e : TypeId)
def methFn (P : Program) (t : TypeId) (name : String) : Option (FuncId × Rcv) :=
  match P.info? t with
  | some i => (match i.methods.find? (·.name == name) with
    | some m => (match m.path.toList, m.func, P.underlying t with
      | [], some (f, true), some (.pointer _) => some (f, .ptr)
      | [], some (f, false), some (.pointer e) => some (f, .val e)
      | _, _, _ => none)
    | none => none)
  | none => none
def notIfc : Option TypeDesc → Bool
  | some (.interface _) => false
  | some _ => true
  | none => false
theorem op_mkifc {o : Oper} {K : St → Prop} (t : TypeId) (x : Operand) (ho : o.op = .makeInterface t x) (ht : notIfc (P.underlying t) = true) (id off : Nat) (hx : st.ev x = .ptr id off) (hm : ∃ ty cs, st.mem id = some (.box ty cs)) (h : K (st.put o.dst (.ifc t id off))) : Opk P o st K := by
  intro C a w hP ⟨L, hs⟩ hd next Q hn
  obtain ⟨ty, cs, hm⟩ := hm
  have hr := ev_rep hs x
  rw [hx] at hr
  generalize hv : a.eval x = v at hr
  cases hr with
  | ptr _ _ _ h1 hu hp =>
    cases hd' : P.underlying t with
    | none => rw [hd'] at ht; cases ht
    | some d =>
      refine wp_value (v := .iface t v) (w' := w) ?_ (hn _ _ _ (by simp) h ⟨L, hs.put _ hd (.ifc t id off _ rfl hu fun bty cs' hm' => by rw [hp _ _ hm'])⟩)
      unfold execOp
      simp only [ho, Instr.makeInterface, hv]
      rw [Sem.run_bind, Sem.run_bind, run_underlying hd', Result.andThen_ok]
      rw [hd'] at ht
      cases d <;> first | rfl | cases ht
theorem op_mkifcV {o : Oper} {K : St → Prop} (t : TypeId) (x : Operand) (ho : o.op = .makeInterface t x) (ht : notIfc (P.underlying t) = true) (y : Value) (hx : st.ev x = .t (.v y)) (h : K (st.put o.dst (.t (.v (.iface t y))))) : Opk P o st K := by
  intro C a w hP ⟨L, hs⟩ hd next Q hn
  have hr := ev_rep hs x
  rw [hx] at hr
  have hv : a.eval x = y := rep_val hr
  cases hd' : P.underlying t with
  | none => rw [hd'] at ht; cases ht
  | some d =>
    refine wp_value (v := .iface t y) (w' := w) ?_ (hn _ _ _ (by simp) h ⟨L, hs.put _ hd (.t _ _ (.v _ rfl))⟩)
    unfold execOp
    simp only [ho, Instr.makeInterface, hv]
    rw [Sem.run_bind, Sem.run_bind, run_underlying hd', Result.andThen_ok]
    rw [hd'] at ht
    cases d <;> first | rfl | cases ht
theorem op_assertV {o : Oper} {K : St → Prop} (x : Operand) (xt t : TypeId) (ho : o.op = .typeAssert x xt t true) (ht : notIfc (P.underlying t) = true) (y : Value) (hy : y.oneCell' = true) (hx : st.ev x = .t (.v (.iface t y))) (h : K (st.put o.dst (.tup [.t (.v y), .t (.v (.bool true))]))) : Opk P o st K := by
  intro C a w hP ⟨L, hs⟩ hd next Q hn
  have hr := ev_rep hs x
  rw [hx] at hr
  have hv : a.eval x = .iface t y := rep_val hr
  cases hd' : P.underlying t with
  | none => rw [hd'] at ht; cases ht
  | some d =>
    refine wp_value (v := .tuple #[y, .bool true]) (w' := w) ?_ (hn _ _ _ (by simp) h ⟨L, hs.put _ hd (.tup _ _ rfl fun i hi => ?_)⟩)
    · unfold execOp
      simp only [ho, Instr.typeAssert, hv]
      rw [Sem.run_bind, Sem.run_bind, run_underlying hd', Result.andThen_ok]
      rw [hd'] at ht
      cases d <;> first | (cases ht; done) | simp
    · match i, hi with
      | 0, _ => exact .t _ _ (.v _ hy)
      | 1, _ => exact .t _ _ (.v _ rfl)
theorem run_wrapnil (ts : Array TypeId) (t : TypeId) (a : Addr) (n1 n2 : String) (w : World) : (Builtin.ssaWrapNilChk_ ts t #[.pointer (some a), strVal n1, strVal n2]).run P w = .ok (.pointer (some a)) w := rfl
theorem run_method {t : TypeId} {name : String} {f : FuncId} {rc : Rcv} (h : methFn P t name = some (f, rc)) (w : World) (b off : Nat) (n : Nat) :
    (∃ e, rc = .val e ∧ ∀ v, (loadVar e ⟨b, off, none⟩).run P w = .ok v w → (method (n + 1) t (.pointer (some ⟨b, off, none⟩)) name).run P w = .ok (f, v) w) ∨
    (rc = .ptr ∧ (method (n + 1) t (.pointer (some ⟨b, off, none⟩)) name).run P w = .ok (f, .pointer (some ⟨b, off, none⟩)) w) := by
  unfold methFn at h
  split at h
  · rename_i i hi
    split at h
    · rename_i m hm
      split at h
      · rename_i f' e1 e2 hpath hfun hund
        cases h
        refine .inr ⟨rfl, ?_⟩
        simp only [method, typeInfo, Sem.run_bind, run_program, hi, Result.andThen_ok, Sem.run_pure, hm, hpath, follow, hfun, receiverAt, run_underlying hund, Place.get]
      · rename_i f' e1 e2 hpath hfun hund
        cases h
        refine .inl ⟨_, rfl, fun v hv => ?_⟩
        cases hp : m.path.isEmpty with
        | true => simp only [method, typeInfo, Sem.run_bind, run_program, hi, Result.andThen_ok, Sem.run_pure, hm, hpath, follow, hfun, receiverAt, run_underlying hund, Place.get, hp, if_true, run_wrapnil, asAddr, hv]
        | false => simp only [method, typeInfo, Sem.run_bind, run_program, hi, Result.andThen_ok, Sem.run_pure, hm, hpath, follow, hfun, receiverAt, run_underlying hund, Place.get, hp, asAddr, hv, Bool.false_eq_true, if_false]
      · cases h
    · cases h
  · cases h
theorem app_get (x : Value) (l : Array Value) : (#[x] ++ l)[0]? = some x := by
  rw [Array.getElem?_append_left (by simp)]; rfl
theorem app_ext (x : Value) (l : Array Value) : (#[x] ++ l).extract 1 (#[x] ++ l).size = l := by
  obtain ⟨l⟩ := l
  apply Array.ext'
  simp
theorem run_invoke {o : Oper} {L : Nat → Loc} (hs : SimL C st L a w) (x : Operand) (name : String) (args : Array Operand) (ts : Array TypeId) (ho : o.op = .call { callee := .invoke x name, args := args, argTypes := ts }) (t : TypeId) (id off : Nat) (hx : st.ev x = .ifc t id off) (hm : ∃ ty cs, st.mem id = some (.box ty cs))
    (f : FuncId) (rc : Rcv) (hmeth : methFn C.P t name = some (f, rc)) (recv : A) (hrc : rc = .ptr → recv = .ptr id off) (hrv : ∀ e, rc = .val e → ∃ ti, tinfo C.P e = some ti ∧ peek st (.ptr id off) ti = some recv) (hpl : plainFn C.P f = true) :
    ∃ rv, (execOp a.eval o).run C.P w = .ok (.enter f (#[rv] ++ args.map a.eval)) w ∧ RepA st L w (Mut C st L) recv rv ∧
      ∀ i (hi : i < (recv :: args.toList.map st.ev).length), RepA st L w (Mut C st L) ((recv :: args.toList.map st.ev)[i]) ((#[rv] ++ args.map a.eval).getD i undef) := by
  obtain ⟨ty, cs, hm⟩ := hm
  have hr := ev_rep hs x
  rw [hx] at hr
  generalize hv : a.eval x = v at hr
  obtain ⟨b, hb, hbc⟩ := box_cells (hs.mem _ _ hm).2
  have hv2 : v = .iface t (.pointer (some ⟨b, off, none⟩)) ∧ RepA st L w (Mut C st L) (.ptr id off) (.pointer (some ⟨b, off, none⟩)) := by
    cases hr with
    | ifc _ _ _ _ h1 hu hp =>
      exact ⟨by rw [hp _ _ hm]; simp [Loc.ptr, hb], .ptr id off _ rfl hu fun ty' cs' hm' => by simp [Loc.ptr, hb]⟩
  obtain ⟨hv2, hpr⟩ := hv2
  have hrecv : ∃ rv, (method (C.P.types.size + Made.depth) t (.pointer (some ⟨b, off, none⟩)) name).run C.P w = .ok (f, rv) w ∧ RepA st L w (Mut C st L) recv rv := by
    rcases run_method hmeth w b off (C.P.types.size + 99) with ⟨e, hrc', hrun⟩ | ⟨hrc', hrun⟩
    · obtain ⟨ti, hti, hpk⟩ := hrv e hrc'
      obtain ⟨u, hu1, hu2⟩ := peek_load hs hti hpr hpk
      refine ⟨u, hrun u ?_, hu2⟩
      simpa [Instr.loadAt, Instr.sureAddr] using hu1
    · exact ⟨_, hrun, by rw [hrc hrc']; exact hpr⟩
  obtain ⟨rv, hrun, hrr⟩ := hrecv
  refine ⟨rv, ?_, hrr, fun i hi => ?_⟩
  · unfold execOp
    simp only [ho, resolve, invoke, Sem.run_bind, Sem.run_pure, Result.andThen_ok, hv, hv2]
    rw [app_get]
    dsimp only
    rw [app_ext]
    simp only [callMethod, Sem.run_bind, run_program, Result.andThen_ok, hrun]
    exact plain_enter hpl _ w
  · cases i with
    | zero =>
      have e : (#[rv] ++ args.map a.eval).getD 0 undef = rv := by rw [Array.getD_eq_getD_getElem?, app_get]; rfl
      rw [e]
      exact hrr
    | succ i =>
      have hi' : i < args.size := by simpa using hi
      have e : (#[rv] ++ args.map a.eval).getD (i + 1) undef = a.eval (args[i]) := by
        rw [Array.getD_eq_getD_getElem?, Array.getElem?_append_right (by simp)]
        simp [hi']
      rw [e]
      simp only [List.getElem_cons_succ, List.getElem_map, Array.getElem_toList]
      exact ev_rep hs _
theorem op_invoke {o : Oper} {K : St → Prop} (x : Operand) (name : String) (args : Array Operand) (ts : Array TypeId) (ho : o.op = .call { callee := .invoke x name, args := args, argTypes := ts }) (t : TypeId) (id off : Nat) (hx : st.ev x = .ifc t id off) (hm : ∃ ty cs, st.mem id = some (.box ty cs))
    (f : FuncId) (rc : Rcv) (hmeth : methFn P t name = some (f, rc)) (recv : A) (hrc : rc = .ptr → recv = .ptr id off) (hrv : ∀ e, rc = .val e → ∃ ti, tinfo P e = some ti ∧ peek st (.ptr id off) ti = some recv) (h : CallIO P f o.dst (recv :: args.toList.map st.ev) st K) : Opk P o st K := by
  intro C a w hP ⟨L, hs⟩ hd next Q hn
  subst hP
  obtain ⟨cargs, m, r, m', ρ, ν, hf, htup, _, hc, _, hargs, hK⟩ := h
  obtain ⟨rv, run, hrr, hreps⟩ := run_invoke hs x name args ts ho t id off hx hm f rc hmeth recv hrc hrv hf.1
  unfold Oper.wp
  rw [run]
  refine (call_io hs hf hc (#[rv] ++ args.map a.eval) (recv :: args.toList.map st.ev) (by simp; omega) hreps hargs htup).mono ?_
  rintro e w' ⟨v, L3, rfl, hs', hr⟩
  exact hn _ _ _ (by simp [St.back]) hK ⟨L3, hs'.put _ hd hr⟩
theorem op_invokeP {o : Oper} {K : St → Prop} (x : Operand) (name : String) (args : Array Operand) (ts : Array TypeId) (ho : o.op = .call { callee := .invoke x name, args := args, argTypes := ts }) (t : TypeId) (id off : Nat) (hx : st.ev x = .ifc t id off) (hm : ∃ ty cs, st.mem id = some (.box ty cs))
    (f : FuncId) (rc : Rcv) (hmeth : methFn P t name = some (f, rc)) (recv : A) (hrc : rc = .ptr → recv = .ptr id off) (hrv : ∀ e, rc = .val e → ∃ ti, tinfo P e = some ti ∧ peek st (.ptr id off) ti = some recv)
    (r : A) (hf : FnP P f ((recv :: args.toList.map st.ev).map (arg2 st)) r) (hflat : ((recv :: args.toList.map st.ev).map (arg2 st)).all flat2 = true) (hsc : scal3 r = true) (h : K (st.put o.dst r)) : Opk P o st K := by
  intro C a w hP ⟨L, hs⟩ hd next Q hn
  subst hP
  obtain ⟨hpl, hcall⟩ := hf
  obtain ⟨rv, run, hrr, hreps⟩ := run_invoke hs x name args ts ho t id off hx hm f rc hmeth recv hrc hrv hpl
  unfold Oper.wp
  rw [run]
  refine (hcall w (fun _ => False) _ (fun b hb => hb.elim) (by simp; omega) fun i hi => ?_).mono ?_
  · have hi' : i < (recv :: args.toList.map st.ev).length := by simpa using hi
    have hfl := List.all_eq_true.1 hflat _ (List.getElem_mem hi)
    rw [List.getElem_map] at hfl ⊢
    exact repF_of hfl (arg_rep hs (fun b hb => hb.elim) (fun _ _ _ _ _ _ _ _ h => h) (hreps i hi'))
  · rintro e w' ⟨v, rfl, hb, hr⟩
    exact hn _ _ _ (by simp) h ⟨L, (hs.later hb.os hb.tape hb.output hb.size hb.block).put _ hd (repF_to (scal_any hsc hr))⟩
def SwapFn (P : Program) (f : FuncId) : Prop :=
  plainFn P f = true ∧ ∀ (w : World) (b n cap : Nat) (cur : Array Value) (ty : TypeId) (i j : Nat) (x y : Int) (vals : Array Value), w.heap[b]? = some (.cells cur ty (0, 0)) → n ≤ cur.size → i < n → j < n → cur[i]? = some (.int .i64 x) → cur[j]? = some (.int .i64 y) →
    vals = #[.slice (some ⟨b, 0, none⟩) n cap, .int .i64 (i : Int), .int .i64 (j : Int)] → Calls P f vals w fun e w' => e = .returned (.tuple #[]) ∧ w'.heap = (w.setRow b ((cur.setIfInBounds i (.int .i64 y)).setIfInBounds j (.int .i64 x))).heap ∧ w'.os = w.os ∧ w'.tape = w.tape ∧ w'.output = w.output
theorem op_swap {o : Oper} {K : St → Prop} (x : Operand) (name : String) (x1 x2 : Operand) (ts : Array TypeId) (ho : o.op = .call { callee := .invoke x name, args := #[x1, x2], argTypes := ts }) (t : TypeId) (id off : Nat) (hx : st.ev x = .ifc t id off) (hm : ∃ ty cs, st.mem id = some (.box ty cs))
    (f : FuncId) (e' : TypeId) (hmeth : methFn P t name = some (f, .val e')) (ti : TI) (hti : tinfo P e' = some ti) (r : Nat) (hpk : peek st (.ptr id off) ti = some (.ref r)) (hsw : SwapFn P f) (e : TypeId) (xs : List (List T)) (hr : st.mem r = some (.row e 1 xs)) (i j : Nat)
    (h1 : st.ev x1 = .t (.v (.int .i64 (i : Int)))) (h2 : st.ev x2 = .t (.v (.int .i64 (j : Int)))) (p q : Int) (hp : xs[i]? = some [.v (.int .i64 p)]) (hq : xs[j]? = some [.v (.int .i64 q)]) (h : K ((st.setm r (.row e 1 ((xs.set i [.v (.int .i64 q)]).set j [.v (.int .i64 p)]))).put o.dst (.tup []))) : Opk P o st K := by
  intro C a w hP ⟨L, hs⟩ hd next Q hn
  subst hP
  obtain ⟨hpl, hcall⟩ := hsw
  obtain ⟨rv, run, hrr, hreps⟩ := run_invoke hs x name #[x1, x2] ts ho t id off hx hm f (.val e') hmeth (.ref r) (fun h => nomatch h) (fun e h => by cases h; exact ⟨ti, hti, hpk⟩) hpl
  have v1 : a.eval x1 = .int .i64 (i : Int) := rep_val (by have := ev_rep hs x1; rw [h1] at this; exact this)
  have v2 : a.eval x2 = .int .i64 (j : Int) := rep_val (by have := ev_rep hs x2; rw [h2] at this; exact this)
  obtain ⟨hi, ep⟩ := List.getElem?_eq_some_iff.1 hp
  obtain ⟨hj, eq⟩ := List.getElem?_eq_some_iff.1 hq
  rw [← ep, ← eq] at h
  cases hrr with
  | ref _ _ q1 q2 q3 =>
    have hrv := q3 _ _ _ hr
    obtain ⟨h0, hk, hq'⟩ := (hs.mem _ _ hr).2
    rcases hq' with ⟨hxs, _⟩ | ⟨b, cur, hb, hw, hle, hcm, hcs, hcc⟩
    · subst hxs; simp at hi
    · have one : ∀ q (hq : q < xs.length), ∃ c, cur[q]? = some c ∧ ∃ hl : 0 < (xs[q]).length, RepT w (Mut C st L) (xs[q][0]) c := fun q hq => by
        have hl : 0 < (xs[q]).length := by rw [hk q hq]; omega
        obtain ⟨c, hc1, hc2⟩ := hcc q hq 0 hl
        exact ⟨c, by simpa using hc1, hl, hc2⟩
      obtain ⟨ci, hci, hli, hri⟩ := one i hi
      obtain ⟨cj, hcj, hlj, hrj⟩ := one j hj
      have vi : ci = .int .i64 p := by
        have e1 : (xs[i])[0] = .v (.int .i64 p) := by simp [ep]
        rw [e1] at hri; cases hri; rfl
      have vj : cj = .int .i64 q := by
        have e1 : (xs[j])[0] = .v (.int .i64 q) := by simp [eq]
        rw [e1] at hrj; cases hrj; rfl
      unfold Oper.wp
      rw [run]
      refine (hcall w b xs.length (L r).cap cur e i j p q _ hw (by omega) hi hj (by rw [hci, vi]) (by rw [hcj, vj]) (by rw [hrv]; simp [Loc.slice, hb, v1, v2])).mono ?_
      rw [← vi, ← vj]
      rintro ex w' ⟨rfl, hh, ho', ht', hu'⟩
      suffices hs2 : SimL C (st.setm r (.row e 1 ((xs.set i xs[j]).set j xs[i]))) L a (w.setRow b ((cur.setIfInBounds i cj).setIfInBounds j ci)) from
        hn _ _ _ (by simp; rfl) h ⟨L, SimL.put (hs2.later ho' ht' hu' (by rw [hh]; exact Nat.le_refl _) fun k _ => by rw [hh]) _ hd (.tup [] #[] rfl fun i hi => nomatch hi)⟩
      refine hs.setm r _ (.row e 1 ((xs.set i xs[j]).set j xs[i])) hr ⟨rfl, by simp⟩ b hb ?_
      have ext : ∀ {y : T} {u : Value}, RepT w (Mut C st L) y u → RepT (w.setRow b ((cur.setIfInBounds i cj).setIfInBounds j ci)) (Mut C st L) y u := fun hy =>
        hy.ext ⟨by simp, fun k hk hm' => setRow_other w b k _ fun e => hm' (.inr ⟨r, by rw [hr]; rfl, by rw [e]; exact .inl hb⟩)⟩ (fun _ _ h => h)
      refine ⟨h0, fun q hq => ?_, .inr ⟨b, _, hb, setRow_heap w b cur _ e _ hw, by simpa using hle, hcm, by simpa using hcs, fun q hq s hs' => ?_⟩⟩
      · simp only [List.getElem_set]
        split
        · exact hk i hi
        · split
          · exact hk j hj
          · exact hk q (by simpa using hq)
      · have hq0 : q < xs.length := by simpa using hq
        have hlen : (((xs.set i xs[j]).set j xs[i])[q]).length = 1 := by
          simp only [List.getElem_set]
          split
          · exact hk i hi
          · split
            · exact hk j hj
            · exact hk q hq0
        have hs0 : s = 0 := by omega
        subst hs0
        obtain ⟨cq, hcq, hlq, hrq⟩ := one q hq0
        simp only [Nat.mul_one, Nat.add_zero, List.getElem_set, Array.getElem?_setIfInBounds, Array.size_setIfInBounds]
        have sj : j < cur.size := by omega
        have si : i < cur.size := by omega
        by_cases e1 : j = q
        · subst e1
          exact ⟨ci, by simp [sj], by simpa using ext hri⟩
        · by_cases e2 : i = q
          · subst e2
            exact ⟨cj, by simp [e1, si], by simpa [e1] using ext hrj⟩
          · exact ⟨cq, by simp [e1, e2, hcq], by simpa [e1, e2] using ext hrq⟩
end Go.Proofs.YtcmpcbpdnaodmaaDoor
namespace Go.Proofs.YtcmpcbpdnaodmaaDoor
open Go.RowKit
set_option linter.unusedVariables false
inductive D where
  | int (k : IntKind)
  | bool
  | str
  | sl (d : D)
  | nat (i : Nat)
  | map (k d : D)
structure Tab0 where
  ty : Nat → Type
  lv : Nat → List D
def El (B : Tab0) : D → Type
  | .int _ => Int
  | .bool => Bool
  | .str => List UInt8
  | .sl d => List (El B d)
  | .nat i => B.ty i
  | .map k d => List (El B k × El B d)
def Tup (B : Tab0) : List D → Type
  | [] => Unit
  | d :: l => El B d × Tup B l
def szD (B : Tab0) : D → Nat
  | .nat i => (B.lv i).length
  | _ => 1
structure Tab1 extends Tab0 where
  cells : (i : Nat) → ty i → Tup toTab0 (lv i)
  put : (i : Nat) → Tup toTab0 (lv i) → ty i
  enc : (i : Nat) → ty i → List T
def encD (B : Tab1) : (d : D) → El B.toTab0 d → List T
  | .int k, n => [.v (.int k n)]
  | .bool, b => [.v (.bool b)]
  | .str, s => [.v (.string (mkS s))]
  | .sl d, xs => [.sl (szD B.toTab0 d) (List.map (encD B d) xs)]
  | .nat i, x => B.enc i x
  | .map _ _, _ => [.any]
def encT (B : Tab1) : (l : List D) → Tup B.toTab0 l → List T
  | [], _ => []
  | d :: l, x => encD B d x.1 ++ encT B l x.2
def leafD : D → Bool
  | .nat _ => false
  | _ => true
structure Tab extends Tab1 where
  ok : ∀ (i : Nat) (x : Tup toTab0 (lv i)), enc i (put i x) = encT toTab1 (lv i) x
  ok' : ∀ (i : Nat) (x : ty i), enc i x = encT toTab1 (lv i) (cells i x)
  leaf : ∀ i, (lv i).all leafD = true
  cp : ∀ (i : Nat) (x : Tup toTab0 (lv i)), cells i (put i x) = x
variable {B : Tab}
abbrev E (B : Tab) (d : D) : Type := El B.toTab0 d
abbrev enc (B : Tab) (d : D) : E B d → List T := encD B.toTab1 d
abbrev sz (B : Tab) (d : D) : Nat := szD B.toTab0 d
theorem encD_len : ∀ (d : D) (x : E B d), leafD d = true → (enc B d x).length = 1
  | .int _, _, _ => rfl
  | .bool, _, _ => rfl
  | .str, _, _ => rfl
  | .sl _, _, _ => rfl
  | .nat _, _, h => by cases h
  | .map _ _, _, _ => rfl
def eqK (a b : IntKind) : Bool := match decEq a b with | .isTrue _ => true | .isFalse _ => false
theorem eqK_eq {a b : IntKind} (h : eqK a b = true) : a = b := by
  unfold eqK at h
  split at h
  · assumption
  · cases h
def eqD : D → D → Bool
  | .int a, .int b => eqK a b
  | .bool, .bool => true
  | .str, .str => true
  | .sl a, .sl b => eqD a b
  | .nat i, .nat j => Nat.beq i j
  | .map a b, .map c d => eqD a c && eqD b d
  | _, _ => false
theorem eqD_eq : ∀ {a b : D}, eqD a b = true → a = b
  | .int a, b, h => by
    cases b with
    | int b => rw [eqK_eq (a := a) (b := b) h]
    | _ => cases h
  | .bool, b, h => by cases b <;> first | rfl | cases h
  | .str, b, h => by cases b <;> first | rfl | cases h
  | .sl a, b, h => by
    cases b with
    | sl b => rw [eqD_eq (a := a) (b := b) h]
    | _ => cases h
  | .nat i, b, h => by
    cases b with
    | nat j => rw [beq_t (t := i) (i := j) h]
    | _ => cases h
  | .map a a', b, h => by
    cases b with
    | map b b' =>
      have h : (eqD a b && eqD a' b') = true := h
      simp only [Bool.and_eq_true] at h
      rw [eqD_eq (a := a) (b := b) h.1, eqD_eq (a := a') (b := b') h.2]
    | _ => cases h
def asD (d d' : D) (xs : List (E B d)) : Option (List (E B d')) :=
  match h : eqD d d' with
  | true => some (eqD_eq h ▸ xs)
  | false => none
theorem asD_ok {d d' : D} {xs : List (E B d)} {ys : List (E B d')} (h : asD d d' xs = some ys) : ∃ e : d = d', e ▸ xs = ys := by
  unfold asD at h
  split at h
  · rename_i h1; cases h; exact ⟨eqD_eq h1, rfl⟩
  · cases h
theorem asD_enc {d d' : D} {xs : List (E B d)} {ys : List (E B d')} (h : asD d d' xs = some ys) : sz B d = sz B d' ∧ xs.map (enc B d) = ys.map (enc B d') := by
  obtain ⟨rfl, rfl⟩ := asD_ok h
  exact ⟨rfl, rfl⟩
def asE (d d' : D) (x : E B d) : Option (E B d') :=
  match h : eqD d d' with
  | true => some (eqD_eq h ▸ x)
  | false => none
theorem asE_ok {d d' : D} {x : E B d} {y : E B d'} (h : asE d d' x = some y) : ∃ e : d = d', e ▸ x = y := by
  unfold asE at h
  split at h
  · rename_i h1; cases h; exact ⟨eqD_eq h1, rfl⟩
  · cases h
def keyV (B : Tab) : (k : D) → E B k → Value
  | .int k, n => .int k n
  | .str, s => .string (mkS s)
  | _, _ => undef
def mapV (B : Tab) (k d : D) (es : List (E B k × E B d)) : List (Value × List T) := es.map fun p => (keyV B k p.1, enc B d p.2)
abbrev eqZ (a b : Int) : Bool := decide (a = b)
abbrev eqS (a b : List UInt8) : Bool := decide (a = b)
def idxG {α β : Type} (eq : α → α → Bool) (es : List (α × β)) (x : α) : Option Nat := es.findIdx? fun p => eq x p.1
def hasG {α β : Type} (eq : α → α → Bool) (es : List (α × β)) (x : α) : Bool := (idxG eq es x).isSome
def getG {α β : Type} (eq : α → α → Bool) (es : List (α × β)) (x : α) : Option β := (idxG eq es x).bind fun i => (es[i]?).map (·.2)
def setG {α β : Type} (eq : α → α → Bool) (es : List (α × β)) (x : α) (y : β) : List (α × β) := match idxG eq es x with | some i => es.set i (x, y) | none => es ++ [(x, y)]
inductive TC (B : Tab) where
  | t (x : T)
  | l (d : D) (xs : List (E B d))
  | fp (i : Nat) (x : B.ty i) (off : Nat)
  | m (k d : D) (es : List (E B k × E B d))
def TC.er : TC B → T
  | .t x => x
  | .l d xs => .sl (sz B d) (xs.map (enc B d))
  | .fp i x off => .fp ((enc B (.nat i) x).drop off)
  | .m _ _ _ => .any
inductive C1 (B : Tab) where
  | d (x : TC B)
  | ref (id : Nat)
  | ptr (id off : Nat)
  | ifc (ty : TypeId) (id off : Nat)
  | rptr (id i j : Nat)
  | ob (id : Nat)
  | fel (cs : List (TC B))
  | dead
abbrev C1.v (x : Value) : C1 B := .d (.t (.v x))
def C1.er : C1 B → A
  | .d x => .t x.er
  | .ref id => .ref id
  | .ptr id o => .ptr id o
  | .ifc t id o => .ifc t id o
  | .rptr id i j => .rptr id i j
  | .ob id => .ob id
  | .fel cs => .fel (cs.map TC.er)
  | .dead => .dead
inductive V2 (B : Tab) where
  | c (x : C1 B)
  | agg (cs : List (C1 B))
def V2.er : V2 B → A
  | .c x => x.er
  | .agg cs => .agg (cs.map C1.er)
inductive TV (B : Tab) where
  | v (x : V2 B)
  | tup (cs : List (V2 B))
def TV.er : TV B → A
  | .v x => x.er
  | .tup cs => .tup (cs.map V2.er)
abbrev TV.c (x : C1 B) : TV B := .v (.c x)
abbrev TV.agg (x : List (C1 B)) : TV B := .v (.agg x)
abbrev TV.dead : TV B := .v (.c .dead)
inductive TB (B : Tab) where
  | box (ty : TypeId) (cells : List (C1 B))
  | row (e : TypeId) (d : D) (xs : List (E B d))
  | obj (od : Od)
  | map (k d : D) (es : List (E B k × E B d))
def TB.er : TB B → Blk
  | .box ty cs => .box ty (cs.map C1.er)
  | .row e d xs => .row e (sz B d) (xs.map (enc B d))
  | .obj od => .obj od
  | .map k d es => .obj (.map (mapV B k d es))
structure TS (B : Tab) where
  n : Nat
  es : List (Nat × TV B)
  ms : List (Nat × Option (TB B))
def TS.er (s : TS B) : LS := ⟨s.n, s.es.map fun p => (p.1, p.2.er), s.ms.map fun p => (p.1, p.2.map TB.er)⟩
def lkT : List (Nat × TV B) → Nat → TV B
  | [], _ => .dead
  | (i, x) :: l, t => match Nat.beq t i with | true => x | false => lkT l t
def lkB : List (Nat × Option (TB B)) → Nat → Option (Option (TB B))
  | [], _ => none
  | (i, x) :: l, t => match Nat.beq t i with | true => some x | false => lkB l t
def getB (ms : List (Nat × Option (TB B))) (i : Nat) : Option (TB B) := match lkB ms i with | some (some b) => some b | _ => none
def usedB (ms : List (Nat × Option (TB B))) (i : Nat) : Bool := match lkB ms i with | some _ => true | none => false
theorem lkT_er (t : Nat) : ∀ es : List (Nat × TV B), lkE (es.map fun p => (p.1, p.2.er)) t = (lkT es t).er
  | [] => rfl
  | (i, x) :: l => by
    show lkE ((i, x.er) :: l.map _) t = (match Nat.beq t i with | true => x | false => lkT l t).er
    unfold lkE
    cases Nat.beq t i with
    | true => rfl
    | false => exact lkT_er t l
theorem lkB_er (t : Nat) : ∀ ms : List (Nat × Option (TB B)), lkM (ms.map fun p => (p.1, p.2.map TB.er)) t = (lkB ms t).map (Option.map TB.er)
  | [] => rfl
  | (i, x) :: l => by
    show lkM ((i, x.map TB.er) :: l.map _) t = (match Nat.beq t i with | true => some x | false => lkB l t).map _
    unfold lkM
    cases Nat.beq t i with
    | true => rfl
    | false => exact lkB_er t l
theorem getB_er (t : Nat) (ms : List (Nat × Option (TB B))) : getM (ms.map fun p => (p.1, p.2.map TB.er)) t = (getB ms t).map TB.er := by
  unfold getM getB
  rw [lkB_er]
  cases lkB ms t with
  | none => rfl
  | some x => cases x <;> rfl
theorem usedB_er (t : Nat) (ms : List (Nat × Option (TB B))) : usedM (ms.map fun p => (p.1, p.2.map TB.er)) t = usedB ms t := by
  unfold usedM usedB
  rw [lkB_er]
  cases lkB ms t <;> rfl
def TS.put (s : TS B) (d : Option Nat) (a : TV B) : TS B := match d with | some d => ⟨s.n, (d, a) :: s.es, s.ms⟩ | none => s
def TS.new (s : TS B) (id : Nat) (b : TB B) : TS B := ⟨s.n, s.es, (id, some b) :: s.ms⟩
def TS.del (s : TS B) (id : Nat) : TS B := ⟨s.n, s.es, (id, none) :: s.ms⟩
def constC (v : Value) : C1 B := match v.oneCell' with | true => .v v | false => .dead
def TS.ev (s : TS B) : Operand → TV B
  | .tmp t => lkT s.es t
  | .const v => .c (constC v)
  | .global g => .c (.v (.pointer (some ⟨g, 0, none⟩)))
  | .func f => .c (.v (.func (.func f) #[] #[]))
theorem put_er (s : TS B) (d : Option Nat) (a : TV B) : (s.put d a).er = s.er.put d a.er := by cases d <;> rfl
theorem new_er (s : TS B) (id : Nat) (b : TB B) : (s.new id b).er = s.er.new id b.er := rfl
theorem ev_er (s : TS B) (x : Operand) : s.er.st.ev x = (s.ev x).er := by
  cases x with
  | tmp t => exact lkT_er t s.es
  | const v =>
    show constA v = (constC v : C1 B).er
    unfold constA constC
    cases v.oneCell' <;> rfl
  | global g => rfl
  | func f => rfl
theorem mem_er (s : TS B) (i : Nat) : getM s.er.ms i = (getB s.ms i).map TB.er := getB_er i s.ms
theorem used_er (s : TS B) (i : Nat) : usedM s.er.ms i = usedB s.ms i := usedB_er i s.ms
end Go.Proofs.YtcmpcbpdnaodmaaDoor
namespace Go.Proofs.YtcmpcbpdnaodmaaDoor
open Go.RowKit
set_option linter.unusedVariables false
variable {B : Tab} {P : Program}
inductive Act (B : Tab) : Type 1 where
  | no
  | st (s : TS B) (lk : Bool)
  | bnd {α : Type} (x : Option α) (f : α → Act B)
  | cas (b : Bool) (x y : Act B)
  | lo (s : TS B)
  | sem (s : TS B)
def runA {ρ : Type} : Act B → (TS B → Nat → Option ρ) → Option ρ
  | .no, _ => none
  | .st s lk, k => k s (match lk with | true => 1 | false => 0)
  | .lo s, k => k s 2
  | .sem s, k => k s 3
  | .bnd x f, k => x.bind fun y => runA (f y) k
  | .cas b x y, k => cond b (runA x k) (runA y k)
def isLook : Orc → Bool
  | .look _ _ => true
  | _ => false
def Sound (P : Program) (o : Oper) (s : TS B) : Act B → Prop
  | .no => True
  | .st s' lk => ∃ q obs, stepX P o q s.er = some (obs, s'.er) ∧ AllP obs ∧ (lk = true → looks o q = true) ∧ isLook q = false
  | .lo s' => ∃ ns r obs, stepX P o (.look ns r) s.er = some (obs, s'.er) ∧ AllP obs ∧ looks o (.look ns r) = true
  | .sem s' => ∀ K : St → Prop, K s'.er.st → Opk P o s.er.st K
  | .bnd x f => ∀ y, x = some y → Sound P o s (f y)
  | .cas b x y => (b = true → Sound P o s x) ∧ (b = false → Sound P o s y)
theorem runA_ok {ρ : Type} {o : Oper} {s : TS B} {k : TS B → Nat → Option ρ} {r : ρ} : ∀ {a : Act B}, Sound P o s a → runA a k = some r →
    (∃ s' m q obs, stepX P o q s.er = some (obs, s'.er) ∧ AllP obs ∧ (Nat.beq m 0 = false → looks o q = true) ∧ isLook q = Nat.beq m 2 ∧ k s' m = some r) ∨ ∃ s', (∀ K : St → Prop, K s'.er.st → Opk P o s.er.st K) ∧ k s' 3 = some r
  | .no, _, h => by cases h
  | .st s' lk, hs, h => by
    obtain ⟨q, obs, h1, h2, h3, h4⟩ := hs
    cases lk with
    | true => exact .inl ⟨s', 1, q, obs, h1, h2, fun _ => h3 rfl, h4, h⟩
    | false => exact .inl ⟨s', 0, q, obs, h1, h2, fun e => (nomatch e), h4, h⟩
  | .sem s', hs, h => .inr ⟨s', hs, h⟩
  | .lo s', hs, h => by
    obtain ⟨ns, r, obs, h1, h2, h3⟩ := hs
    exact .inl ⟨s', 2, _, obs, h1, h2, fun _ => h3, rfl, h⟩
  | .bnd x f, hs, h => by
    cases hx : x with
    | none => rw [hx] at h; cases h
    | some y => rw [hx] at h; exact runA_ok (hs y hx) h
  | .cas b x y, hs, h => by
    cases hb : b with
    | true => rw [hb] at h hs; exact runA_ok (hs.1 rfl) h
    | false => rw [hb] at h hs; exact runA_ok (hs.2 rfl) h
theorem sound_no {o : Oper} {s s' : TS B} {obs : List Prop} (q : Orc) (h : stepX P o q s.er = some (obs, s'.er)) (ho : AllP obs) (hq : isLook q = false := by rfl) : Sound P o s (.st s' false) := ⟨q, obs, h, ho, fun e => (by cases e), hq⟩
def leafC : (d : D) → E B d → TC B
  | .int k, n => .t (.v (.int k n))
  | .bool, b => .t (.v (.bool b))
  | .str, s => .t (.v (.string (mkS s)))
  | .sl d, xs => .l d xs
  | .nat _, _ => .t (.v undef)
  | .map k d, x => .m k d x
def celT : (l : List D) → Tup B.toTab0 l → List (TC B)
  | [], _ => []
  | d :: l, x => leafC d x.1 :: celT l x.2
def celD : (d : D) → E B d → List (TC B)
  | .nat i, x => celT (B.lv i) (B.cells i x)
  | .int k, x => [leafC (.int k) x]
  | .bool, x => [leafC .bool x]
  | .str, x => [leafC .str x]
  | .sl d, x => [leafC (.sl d) x]
  | .map k d, x => [leafC (.map k d) x]
theorem leafC_er : ∀ (d : D) (x : E B d), leafD d = true → enc B d x = [(leafC d x).er]
  | .int _, _, _ => rfl
  | .bool, _, _ => rfl
  | .str, _, _ => rfl
  | .sl _, _, _ => rfl
  | .nat _, _, h => by cases h
  | .map _ _, _, _ => rfl
theorem celT_er : ∀ (l : List D) (x : Tup B.toTab0 l), l.all leafD = true → (celT l x).map TC.er = encT B.toTab1 l x
  | [], _, _ => rfl
  | d :: l, x, h => by
    simp only [List.all_cons, Bool.and_eq_true] at h
    show (leafC d x.1).er :: (celT l x.2).map TC.er = encD B.toTab1 d x.1 ++ encT B.toTab1 l x.2
    rw [celT_er l x.2 h.2, show encD B.toTab1 d x.1 = [(leafC d x.1).er] from leafC_er d x.1 h.1]
    rfl
theorem celD_er (d : D) (x : E B d) : (celD d x).map TC.er = enc B d x := by
  cases d with
  | nat i => exact (celT_er _ _ (B.leaf i)).trans (B.ok' i x).symm
  | _ => rfl
def intM (k : IntKind) : TC B → Option Int
  | .t (.v (.int k' n)) => (match eqK k' k with | true => some n | false => none)
  | _ => none
def boolM : TC B → Option Bool
  | .t (.v (.bool b)) => some b
  | _ => none
def strM : TC B → Option (List UInt8)
  | .t (.v (.string s)) => some s.data.toList
  | _ => none
def slM (d : D) : TC B → Option (List (E B d))
  | .l d' xs => asD d' d xs
  | _ => none
def leafM : (d : D) → TC B → Option (E B d)
  | .int k, c => intM k c
  | .bool, c => boolM c
  | .str, c => strM c
  | .sl d, c => slM d c
  | .nat _, _ => none
  | .map k d, c => (match c with | .m k' d' es => asE (.map k' d') (.map k d) es | _ => none)
def takT : (l : List D) → List (TC B) → Option (Tup B.toTab0 l)
  | [], [] => some ()
  | d :: l, c :: cs => (match leafM d c, takT l cs with | some x, some r => some (x, r) | _, _ => none)
  | _, _ => none
def mkD : (d : D) → List (TC B) → Option (E B d)
  | .nat i, cs => (match takT (B.lv i) cs with | some x => some (B.put i x) | none => none)
  | .int k, [c] => leafM (.int k) c
  | .bool, [c] => leafM .bool c
  | .str, [c] => leafM .str c
  | .sl d, [c] => leafM (.sl d) c
  | .map k d, [c] => leafM (.map k d) c
  | _, _ => none
theorem intM_ok {k : IntKind} {c : TC B} {n : Int} (h : intM k c = some n) : T.v (.int k n) = c.er := by
  unfold intM at h
  split at h
  · split at h
    · rename_i h1; cases h; rw [← eqK_eq h1]; rfl
    · cases h
  · cases h
theorem boolM_ok {c : TC B} {b : Bool} (h : boolM c = some b) : T.v (.bool b) = c.er := by
  unfold boolM at h
  split at h
  · cases h; rfl
  · cases h
theorem strM_ok {c : TC B} {s : List UInt8} (h : strM c = some s) : T.v (.string (mkS s)) = c.er := by
  unfold strM at h
  split at h
  · cases h; rfl
  · cases h
theorem slM_ok {d : D} {c : TC B} {xs : List (E B d)} (h : slM d c = some xs) : T.sl (sz B d) (xs.map (enc B d)) = c.er := by
  unfold slM at h
  split at h
  · obtain ⟨h1, h2⟩ := asD_enc h
    rw [← h2, ← h1]; rfl
  · cases h
theorem leafM_ok : ∀ {d : D} {c : TC B} {x : E B d}, leafM d c = some x → enc B d x = [c.er]
  | .int k, c, x, h => congrArg (fun t => [t]) (intM_ok h)
  | .bool, c, x, h => congrArg (fun t => [t]) (boolM_ok h)
  | .str, c, x, h => congrArg (fun t => [t]) (strM_ok h)
  | .sl d, c, x, h => congrArg (fun t => [t]) (slM_ok h)
  | .nat i, c, x, h => by cases h
  | .map k d, c, x, h => by
    cases c with
    | m k' d' es => rfl
    | _ => cases h
theorem takT_ok : ∀ {l : List D} {cs : List (TC B)} {x : Tup B.toTab0 l}, takT l cs = some x → encT B.toTab1 l x = cs.map TC.er
  | [], [], _, _ => rfl
  | [], _ :: _, _, h => by cases h
  | _ :: _, [], _, h => by cases h
  | d :: l, c :: cs, x, h => by
    unfold takT at h
    split at h
    · rename_i x1 r h1 h2
      cases h
      show encD B.toTab1 d x1 ++ encT B.toTab1 l r = c.er :: cs.map TC.er
      rw [takT_ok h2, show encD B.toTab1 d x1 = [c.er] from leafM_ok h1]
      rfl
    · cases h
theorem mkD_ok : ∀ {d : D} {cs : List (TC B)} {x : E B d}, mkD d cs = some x → enc B d x = cs.map TC.er
  | .nat i, cs, x, h => by
    replace h : (match takT (B.lv i) cs with | some x => some (B.put i x) | none => none) = some x := h
    split at h
    · rename_i y h1
      have e : B.put i y = x := Option.some.inj h
      rw [← e]
      exact (B.ok _ _).trans (takT_ok h1)
    · cases h
  | .int k, [c], x, h => leafM_ok (d := .int k) h
  | .bool, [c], x, h => leafM_ok (d := .bool) h
  | .str, [c], x, h => leafM_ok (d := .str) h
  | .sl d, [c], x, h => leafM_ok (d := .sl d) h
  | .int k, [], x, h => by cases h
  | .bool, [], x, h => by cases h
  | .str, [], x, h => by cases h
  | .sl d, [], x, h => by cases h
  | .int k, _ :: _ :: _, x, h => by cases h
  | .bool, _ :: _ :: _, x, h => by cases h
  | .str, _ :: _ :: _, x, h => by cases h
  | .sl d, _ :: _ :: _, x, h => by cases h
  | .map k d, [c], x, h => leafM_ok (d := .map k d) h
  | .map _ _, [], x, h => by cases h
  | .map _ _, _ :: _ :: _, x, h => by cases h
def cellC : TV B → Option (List (C1 B))
  | .v (.agg cs) => some cs
  | .v (.c .dead) => none
  | .v (.c x) => some [x]
  | .tup _ => none
theorem cellC_er (a : TV B) : cellsOf a.er = (cellC a).map (List.map C1.er) := by
  cases a with
  | tup cs => rfl
  | v x =>
    cases x with
    | agg cs => rfl
    | c x => cases x <;> rfl
def takC (cells : List (C1 B)) (off size : Nat) (agg : Bool) : Option (TV B) :=
  match agg with
  | true => (match Nat.ble (off + size) cells.length with | true => some (.agg ((cells.drop off).take size)) | false => none)
  | false => (match cells[off]? with | some x => some (.c x) | none => none)
theorem takC_er (cells : List (C1 B)) (off size : Nat) (agg : Bool) : takeCells (cells.map C1.er) off size agg = (takC cells off size agg).map TV.er := by
  unfold takeCells takC
  cases agg with
  | true =>
    simp only [if_true, List.length_map]
    cases h : Nat.ble (off + size) cells.length with
    | true =>
      rw [if_pos (Nat.le_of_ble_eq_true h)]
      show some (A.agg _) = some (A.agg _)
      rw [List.map_take, List.map_drop]
    | false =>
      rw [if_neg (fun hc => by rw [Nat.ble_eq_true_of_le hc] at h; cases h)]
      rfl
  | false =>
    simp only [Bool.false_eq_true, if_false, List.getElem?_map]
    cases cells[off]? <;> rfl
def tcC (x : C1 B) : Option (TC B) := match x with | .d x => some x | _ => none
def tcsC : List (C1 B) → Option (List (TC B))
  | [] => some []
  | a :: l => match tcC a, tcsC l with | some x, some l => some (x :: l) | _, _ => none
theorem tcsC_er : ∀ {l : List (C1 B)} {ts : List (TC B)}, tcsC l = some ts → l.map C1.er = (ts.map TC.er).map A.t ∧ cellsT (l.map C1.er) = some (ts.map TC.er)
  | [], _, h => by cases h; exact ⟨rfl, rfl⟩
  | a :: l, ts, h => by
    unfold tcsC at h
    split at h
    · rename_i x l' h1 h2
      cases h
      obtain ⟨e1, e2⟩ := tcsC_er h2
      cases a with
      | d y =>
        cases h1
        refine ⟨by simp only [List.map_cons, e1]; rfl, ?_⟩
        show cellsT (A.t x.er :: l.map C1.er) = _
        unfold cellsT
        simp only [cellT, e2]
        rfl
      | _ => cases h1
    · cases h
end Go.Proofs.YtcmpcbpdnaodmaaDoor
namespace Go.Proofs.YtcmpcbpdnaodmaaDoor
open Go.RowKit
set_option linter.unusedVariables false
variable {B : Tab} {P : Program}
def erP (p : Nat × TV B) : Nat × A := (p.1, p.2.er)
def ptrK (s : TS B) (a : TV B) (k : Act B) : Act B :=
  match a with
  | .v (.c (.rptr id i j)) => (match getB s.ms id with | some (.row _ _ xs) => .bnd (xs[i]?) fun _ => k | _ => .no)
  | a => (match isPtr s.er.st a.er with | true => k | false => .no)
theorem ptrK_ok {o : Oper} {s : TS B} {a : TV B} {k : Act B} (h : ∀ q obs, isLook q = false → stepX P o q s.er = stepX0 P o q s.er → ptrOb s.er q a.er = some obs → AllP obs → Sound P o s k) : Sound P o s (ptrK s a k) := by
  unfold ptrK
  split
  · rename_i id i j
    split
    · rename_i e d xs hg
      intro x hx
      refine h (.ix 0 (enc B d x)) [(xs.map (enc B d))[i]? = some (enc B d x)] rfl rfl ?_ ⟨?_, trivial⟩
      · show (match getM s.er.ms id, Orc.ix 0 (enc B d x) with | some (.row _ _ xs), .ix _ el => some [xs[i]? = some el] | _, _ => none) = _
        rw [mem_er, hg]; rfl
      · rw [List.getElem?_map, hx]; rfl
    · trivial
  · rename_i hn
    split
    · rename_i hp
      refine h .no [] rfl rfl ?_ trivial
      unfold ptrOb
      split
      · rename_i id i j he
        exfalso
        cases a with
        | tup cs => cases he
        | v x =>
          cases x with
          | agg cs => cases he
          | c x =>
            cases x with
            | rptr a b c => exact hn a b c rfl
            | _ => cases he
      · rw [hp]
    · trivial
def fieldV (ti : TI) (a : TV B) (f : Nat) : Option (TV B) :=
  match ti.fs[f]? with
  | some (off, size, _) =>
    (match Nat.beq size 0 with
    | true => none
    | false =>
      (match a with
      | .v (.c (.ptr id o)) => some (.c (.ptr id (o + off)))
      | .v (.c (.fel el)) => some (.c (.fel (el.drop off)))
      | .v (.c (.d (.t (.fp el)))) => some (.c (.d (.t (.fp (el.drop off)))))
      | .v (.c (.d (.fp i x o))) => some (.c (.d (.fp i x (o + off))))
      | .v (.c (.rptr id i j)) => some (.c (.rptr id i (j + off)))
      | _ => none))
  | none => none
theorem fieldV_er {ti : TI} {a z : TV B} {f : Nat} (h : fieldV ti a f = some z) : fieldA ti a.er f = some z.er := by
  unfold fieldV at h
  unfold fieldA
  split at h
  · rename_i off size g hf
    rw [hf]
    split at h
    · cases h
    · rename_i h0
      simp only
      rw [if_neg (beq_f h0)]
      split at h
      · cases h; rfl
      · cases h
        show some (A.fel _) = some (A.fel _)
        rw [List.map_drop]
      · cases h; rfl
      · rename_i i x o
        cases h
        show some (A.t (.fp ((((enc B (.nat i) x).drop o)).drop off))) = some (A.t (.fp ((enc B (.nat i) x).drop (o + off))))
        rw [List.drop_drop]
      · cases h; rfl
      · cases h
  · cases h
def subV (ti : TI) (a : TV B) (f : Nat) : Option (TV B) :=
  match ti.fs[f]?, a with
  | some (off, size, agg), .v (.agg cs) => takC cs off size agg
  | _, _ => none
theorem subV_er {ti : TI} {a z : TV B} {f : Nat} (h : subV ti a f = some z) : subA ti a.er f = some z.er := by
  unfold subV at h
  unfold subA
  split at h
  · rename_i off size agg cs hf
    rw [hf]
    show takeCells (cs.map C1.er) off size agg = _
    rw [takC_er, h]; rfl
  · cases h
def peekV (s : TS B) (a : TV B) (ti : TI) : Option (TV B) :=
  match a with
  | .v (.c (.ptr id off)) => (match getB s.ms id with | some (.box _ cells) => takC cells off ti.size ti.agg | _ => none)
  | .v (.c (.fel el)) => takC (el.map C1.d) 0 ti.size ti.agg
  | .v (.c (.d (.t (.fp el)))) => takC (el.map fun x => C1.d (.t x)) 0 ti.size ti.agg
  | .v (.c (.d (.fp i x off))) => takC (((celD (.nat i) x).drop off).map C1.d) 0 ti.size ti.agg
  | _ => none
theorem mapd_er (el : List (TC B)) : (el.map C1.d).map C1.er = (el.map TC.er).map A.t := by
  rw [List.map_map, List.map_map]; rfl
theorem peekV_er {s : TS B} {a z : TV B} {ti : TI} (h : peekV s a ti = some z) : peek s.er.st a.er ti = some z.er := by
  unfold peekV at h
  split at h
  · rename_i id off
    split at h
    · rename_i ty cells hg
      show (match getM s.er.ms id with | some (.box _ cells) => takeCells cells off ti.size ti.agg | _ => none) = _
      rw [mem_er, hg]
      show takeCells (cells.map C1.er) off ti.size ti.agg = _
      rw [takC_er, h]; rfl
    · cases h
  · rename_i el
    show takeCells ((el.map TC.er).map .t) 0 ti.size ti.agg = _
    rw [← mapd_er, takC_er, h]; rfl
  · rename_i el
    show takeCells (el.map .t) 0 ti.size ti.agg = _
    have e : el.map A.t = (el.map fun x => (C1.d (.t x) : C1 B)).map C1.er := by rw [List.map_map]; rfl
    rw [e, takC_er, h]; rfl
  · rename_i i x off
    show takeCells (((enc B (.nat i) x).drop off).map .t) 0 ti.size ti.agg = _
    have e : ((enc B (.nat i) x).drop off).map A.t = (((celD (.nat i) x).drop off).map C1.d).map C1.er := by
      rw [mapd_er]
      congr 1
      rw [List.map_drop]
      exact congrArg (List.drop off) (celD_er (.nat i) x).symm
    rw [e, takC_er, h]; rfl
  · cases h
def fillV (fs : List (Nat × Nat × Bool)) (cells : List (C1 B)) : List (Nat × TV B) → Option (List (C1 B))
  | [] => some cells
  | (i, a) :: rest =>
    match fs[i]?, cellC a with
    | some (off, size, _), some cs => (match Nat.beq cs.length size && Nat.ble (off + size) cells.length with | true => fillV fs (cells.take off ++ cs ++ cells.drop (off + size)) rest | false => none)
    | _, _ => none
theorem fillV_er {fs : List (Nat × Nat × Bool)} : ∀ {l : List (Nat × TV B)} {cells r : List (C1 B)}, fillV fs cells l = some r → fillA fs (cells.map C1.er) (l.map erP) = some (r.map C1.er)
  | [], cells, r, h => by cases h; rfl
  | (i, a) :: l, cells, r, h => by
    unfold fillV at h
    split at h
    · rename_i off size g cs hf hc
      split at h
      · rename_i hk
        simp only [Bool.and_eq_true] at hk
        show (match fs[i]?, cellsOf a.er with
          | some (off, size, _), some cs => if cs.length = size ∧ off + size ≤ (cells.map C1.er).length then fillA fs ((cells.map C1.er).take off ++ cs ++ (cells.map C1.er).drop (off + size)) (l.map erP) else none
          | _, _ => none) = _
        rw [hf, cellC_er, hc]
        simp only [Option.map_some, List.length_map]
        rw [if_pos ⟨beq_t hk.1, Nat.le_of_ble_eq_true hk.2⟩, ← List.map_take, ← List.map_drop, ← List.map_append, ← List.map_append]
        exact fillV_er h
      · cases h
    · cases h
def partsV (d : D) (k : Nat) : Nat → List (Nat × TV B) → Option (List (E B d))
  | _, [] => some []
  | i, (j, a) :: rest =>
    match Nat.beq j i, cellC a with
    | true, some cs => (match tcsC cs with
      | some l => (match Nat.beq l.length k, mkD d l, partsV d k (i + 1) rest with | true, some x, some r => some (x :: r) | _, _, _ => none)
      | none => none)
    | _, _ => none
theorem partsV_er {d : D} {k : Nat} : ∀ {l : List (Nat × TV B)} {i : Nat} {r : List (E B d)}, partsV d k i l = some r → partsT k i (l.map erP) = some (r.map (enc B d)) ∧ (l.map erP).flatMap (fun p => refs2 p.2) = []
  | [], i, r, h => by cases h; exact ⟨rfl, rfl⟩
  | (j, a) :: rest, i, r, h => by
    unfold partsV at h
    split at h
    · rename_i cs hj hc
      split at h
      · rename_i l hl
        split at h
        · rename_i x r' hk hx hr
          cases h
          obtain ⟨e1, e2⟩ := partsV_er hr
          obtain ⟨e3, e4⟩ := tcsC_er hl
          constructor
          · show (if j = i then match cellsOf a.er with
              | some cs => match cellsT cs with
                | some l => if l.length = k then match partsT k (i + 1) (rest.map erP) with | some r => some (l :: r) | none => none else none
                | none => none
              | none => none
            else none) = _
            rw [if_pos (beq_t hj), cellC_er, hc]
            simp only [Option.map_some, e4, List.length_map]
            rw [if_pos (beq_t hk), e1]
            simp only
            rw [← mkD_ok hx]
            rfl
          · show refs2 a.er ++ (rest.map erP).flatMap (fun p => refs2 p.2) = []
            rw [e2, List.append_nil]
            cases a with
            | tup cs => rfl
            | v y =>
              have rf : ∀ c : C1 B, (∃ t, tcC c = some t) → refs1 c.er = [] := fun c ⟨t, ht⟩ => by cases c <;> first | rfl | cases ht
              have all : ∀ {l : List (C1 B)} {ts : List (TC B)}, tcsC l = some ts → ∀ c ∈ l, ∃ t, tcC c = some t := fun {l} => by
                induction l with
                | nil => intro ts _ c hc; cases hc
                | cons b l ih =>
                  intro ts h c hc
                  unfold tcsC at h
                  split at h
                  · rename_i x l' h1 h2
                    rcases List.mem_cons.1 hc with rfl | hc
                    · exact ⟨x, h1⟩
                    · exact ih h2 c hc
                  · cases h
              cases y with
              | agg cs' =>
                cases hc
                show (cs.map C1.er).flatMap refs1 = []
                rw [List.flatMap_eq_nil_iff]
                intro y hy
                obtain ⟨c, hc, rfl⟩ := List.mem_map.1 hy
                exact rf c (all hl c hc)
              | c c =>
                cases c <;> first | rfl | (cases hc; cases hl)
        · cases h
      · cases h
    · cases h
def listV (s : TS B) (a : TV B) : Option (Σ d : D, List (E B d)) :=
  match a with
  | .v (.c (.d (.l d xs))) => some ⟨d, xs⟩
  | .v (.c (.ref id)) => (match getB s.ms id with | some (.row _ d xs) => some ⟨d, xs⟩ | _ => none)
  | _ => none
theorem listV_er {s : TS B} {a : TV B} {d : D} {xs : List (E B d)} (h : listV s a = some ⟨d, xs⟩) : asList s.er.st a.er = some (sz B d, xs.map (enc B d)) := by
  unfold listV at h
  split at h
  · cases h; rfl
  · rename_i id
    split at h
    · rename_i e d' xs' hg
      cases h
      show (match getM s.er.ms id with | some (.row _ k xs) => some (k, xs) | _ => none) = _
      rw [mem_er, hg]; rfl
    · cases h
  · cases h
end Go.Proofs.YtcmpcbpdnaodmaaDoor
namespace Go.Proofs.YtcmpcbpdnaodmaaDoor
open Go.RowKit
set_option linter.unusedVariables false
variable {B : Tab} {P : Program} {o : Oper} {s : TS B}
theorem st_put {d : Option Nat} {z : TV B} : s.er.put d z.er = (s.put d z).er := (put_er s d z).symm
def moveV (o : Oper) (s : TS B) (x : Operand) : Act B := .st (s.put o.dst (s.ev x)) false
theorem moveV_ok {x : Operand} (ho : o.op = .move x ∨ o.op = .assign x) : Sound P o s (moveV o s x) := by
  refine sound_no .no (obs := []) ?_ trivial
  show stepX0 P o .no s.er = _
  unfold stepX0
  rcases ho with ho | ho <;> (rw [ho]; simp only; rw [ev_er, st_put])
def pickW (t : Bool) (a b : TV B) : TV B :=
  match a, b with
  | .v (.c (.d (.t (.v a)))), .v (.c (.d (.t (.v b)))) => .c (.v (pickV t a b))
  | a, b => match t with | true => a | false => b
theorem pickW_er (t : Bool) (a b : TV B) : pickA' t a.er b.er = (pickW t a b).er := by
  rw [pickA'_eq]
  unfold pickW
  split
  · rename_i a b
    show pickA t (.t (.v a)) (.t (.v b)) = A.t (T.v (pickV t a b))
    rw [pickV_eq]; cases t <;> rfl
  · cases t <;> rfl
def pickO (o : Oper) (s : TS B) (c a b : Operand) : Act B :=
  match s.ev c with
  | .v (.c (.d (.t (.v (.bool t))))) => .st (s.put o.dst (pickW t (s.ev a) (s.ev b))) false
  | _ => .no
theorem pickO_ok {c a b : Operand} (ho : o.op = .pick c a b) : Sound P o s (pickO o s c a b) := by
  unfold pickO
  split
  · rename_i t hc
    refine sound_no .no (obs := []) ?_ trivial
    show stepX0 P o .no s.er = _
    unfold stepX0
    rw [ho]; simp only
    rw [ev_er, hc]
    show some ([], s.er.put o.dst (pickA' t (s.er.st.ev a) (s.er.st.ev b))) = _
    rw [ev_er, ev_er, pickW_er, st_put]
  · trivial
def allocV (P : Program) (o : Oper) (s : TS B) (ty : TypeId) : Act B :=
  match o.dst, tinfo P ty with
  | some d, some ti => (match usedB s.ms d with | false => .st ((s.new d (.box ty (ti.zero.map C1.v))).put (some d) (.c (.ptr d 0))) false | true => .no)
  | _, _ => .no
theorem allocV_ok {ty : TypeId} (ho : o.op = .alloc ty) : Sound P o s (allocV P o s ty) := by
  unfold allocV
  split
  · rename_i d ti hd ht
    split
    · rename_i hu
      refine sound_no .no (obs := []) ?_ trivial
      show stepX0 P o .no s.er = _
      unfold stepX0
      rw [ho]; simp only
      rw [hd, ht]; simp only
      rw [used_er, hu]; simp only
      rw [put_er, new_er]
      show some ([], ((s.er.new d (.box ty (ti.zero.map .v))).put (some d) (.ptr d 0))) = some ([], (s.er.new d (.box ty ((ti.zero.map C1.v).map C1.er))).put (some d) (.ptr d 0))
      rw [List.map_map]; rfl
    · trivial
  · trivial
def boxV (o : Oper) (s : TS B) (ty : TypeId) (x : Operand) : Act B :=
  match o.dst, cellC (s.ev x) with
  | some d, some cs => (match usedB s.ms d with | false => .st ((s.new d (.box ty cs)).put (some d) (.c (.ptr d 0))) false | true => .no)
  | _, _ => .no
theorem boxV_ok {ty : TypeId} {x : Operand} (ho : o.op = .box ty x) : Sound P o s (boxV o s ty x) := by
  unfold boxV
  split
  · rename_i d cs hd hc
    split
    · rename_i hu
      refine sound_no .no (obs := []) ?_ trivial
      show stepX0 P o .no s.er = _
      unfold stepX0
      rw [ho]; simp only
      rw [hd, ev_er, cellC_er, hc]; simp only [Option.map_some]
      rw [used_er, hu]; simp only
      rw [put_er, new_er]; rfl
    · trivial
  · trivial
def buildV (P : Program) (o : Oper) (s : TS B) (t : TypeId) (parts : Array (Nat × Operand)) : Act B :=
  match tinfo P t with
  | some ti => (match tkind P t, fillV ti.fs (ti.zero.map C1.v) (parts.toList.map fun p => (p.1, s.ev p.2)) with | .strct, some cs => .st (s.put o.dst (.agg cs)) false | _, _ => .no)
  | none => .no
theorem buildV_ok {t : TypeId} {parts : Array (Nat × Operand)} (ho : o.op = .build t parts) : Sound P o s (buildV P o s t parts) := by
  unfold buildV
  split
  · rename_i ti ht
    split
    · rename_i cs hk hf
      refine sound_no .no (obs := []) ?_ trivial
      show stepX0 P o .no s.er = _
      unfold stepX0
      rw [ho]; simp only
      rw [ht]; simp only
      have e := fillV_er hf
      rw [List.map_map, List.map_map] at e
      have e1 : (ti.zero.map (C1.er ∘ (C1.v : Value → C1 B))) = ti.zero.map A.v := rfl
      have e2 : (parts.toList.map (erP ∘ fun p => (p.1, s.ev p.2))) = parts.toList.map fun p => (p.1, s.er.st.ev p.2) := List.map_congr_left fun p _ => by
        show (p.1, (s.ev p.2).er) = _
        rw [ev_er]
      rw [e1, e2] at e
      rw [hk, e]; simp only
      rw [put_er]; rfl
    · trivial
  · trivial
def sliceV (P : Program) (dof : TypeId → Option D) (o : Oper) (s : TS B) (t : TypeId) (len : Nat) (parts : Array (Nat × Operand)) : Act B :=
  match o.dst, tinfo P t with
  | some d, some ti => (match ti.elem with
    | some e => (match tinfo P e, dof e with
      | some te, some k => (match usedB s.ms d, Nat.blt 0 te.size && Nat.beq parts.size len && Nat.ble (len * te.size) 16777216, Nat.beq te.size (sz B k), partsV k te.size 0 (parts.toList.map fun p => (p.1, s.ev p.2)) with
        | false, true, true, some xs => .st ((s.new d (.row e k xs)).put (some d) (.c (.ref d))) false
        | _, _, _, _ => .no)
      | _, _ => .no)
    | none => .no)
  | _, _ => .no
theorem sliceV_ok {dof : TypeId → Option D} {t : TypeId} {len : Nat} {parts : Array (Nat × Operand)} (ho : o.op = .buildSlice t len parts) : Sound P o s (sliceV P dof o s t len parts) := by
  unfold sliceV
  split
  · rename_i d ti hd ht
    split
    · rename_i e he
      split
      · rename_i te k hte hk
        split
        · rename_i xs hu hb hsz hp
          refine sound_no .no (obs := []) ?_ trivial
          show stepX0 P o .no s.er = _
          unfold stepX0
          rw [ho]; simp only
          rw [hd, ht]; simp only
          rw [he]; simp only
          rw [hte]; simp only
          obtain ⟨e1, e2⟩ := partsV_er hp
          have e3 : ((parts.toList.map fun p => (p.1, s.ev p.2)).map erP) = parts.toList.map fun p => (p.1, s.er.st.ev p.2) := by
            rw [List.map_map]
            exact List.map_congr_left fun p _ => by
              show (p.1, (s.ev p.2).er) = _
              rw [ev_er]
          rw [e3] at e1 e2
          rw [List.flatMap_map] at e2
          have e4 : (parts.toList.flatMap fun x => match x with | (_, x) => refs2 (s.er.st.ev x)) = [] := e2
          rw [used_er, hu, hb, e4]
          have e5 : (parts.toList.map fun x => match x with | (i, x) => (i, s.er.st.ev x)) = parts.toList.map fun p => (p.1, s.er.st.ev p.2) := rfl
          rw [e5, e1, put_er, new_er, beq_t hsz]; rfl
        · trivial
      · trivial
    · trivial
  · trivial
def loadV (P : Program) (o : Oper) (s : TS B) (t : TypeId) (a : Operand) : Act B :=
  match tinfo P t with
  | some ti => (match s.ev a with
    | .v (.c (.rptr id i j)) => (match getB s.ms id with
      | some (.row e d xs) => .bnd (xs[i]?) fun x => (match takC (((celD d x).drop j).map C1.d) 0 ti.size ti.agg with | some z => .st (s.put o.dst z) false | none => .no)
      | _ => .no)
    | a => (match peekV s a ti with | some z => .st (s.put o.dst z) false | none => .no))
  | none => .no
theorem loadV_ok {t : TypeId} {a : Operand} (ho : o.op = .load t a) : Sound P o s (loadV P o s t a) := by
  unfold loadV
  split
  · rename_i ti ht
    split
    · rename_i id i j ha
      split
      · rename_i e d xs hg
        intro x hx
        simp only
        split
        · rename_i z hz
          refine sound_no (.ix 0 (enc B d x)) (obs := [(xs.map (enc B d))[i]? = some (enc B d x)]) ?_ ⟨by rw [List.getElem?_map, hx]; rfl, trivial⟩
          show stepX0 P o (.ix 0 (enc B d x)) s.er = _
          unfold stepX0
          rw [ho]; simp only
          rw [ht]; simp only
          rw [ev_er, ha]
          show (match getM s.er.ms id, takeCells (((enc B d x).drop j).map .t) 0 ti.size ti.agg with
            | some (.row _ _ xs), some y => some ([xs[i]? = some (enc B d x)], s.er.put o.dst y)
            | _, _ => none) = _
          have e1 : ((enc B d x).drop j).map A.t = (((celD d x).drop j).map C1.d).map C1.er := by rw [mapd_er, ← celD_er, List.map_drop (f := TC.er)]
          rw [e1, takC_er, hz, mem_er, hg]
          show some ([(xs.map (enc B d))[i]? = some (enc B d x)], s.er.put o.dst z.er) = _
          rw [st_put]
        · trivial
      · trivial
    · rename_i hn
      split
      · rename_i z hz
        refine sound_no .no (obs := []) ?_ trivial
        show stepX0 P o .no s.er = _
        unfold stepX0
        rw [ho]; simp only
        rw [ht]; simp only
        rw [ev_er, peekV_er hz]; simp only
        rw [st_put]
      · trivial
  · trivial
def setN {α : Type} (xs : List α) (i : Nat) (y : α) : Option (List α) := some (xs.set i y)
def storeV (P : Program) (o : Oper) (s : TS B) (t : TypeId) (a x : Operand) : Act B :=
  match tinfo P t, cellC (s.ev x) with
  | some ti, some cs => (match Nat.beq cs.length ti.size with
    | true => (match s.ev a with
      | .v (.c (.ptr id off)) => (match getB s.ms id with
        | some (.box ty cells) => (match Nat.ble (off + cs.length) cells.length with
          | true => .st ((s.new id (.box ty (cells.take off ++ cs ++ cells.drop (off + cs.length)))).put o.dst .dead) false
          | false => .no)
        | _ => .no)
      | .v (.c (.rptr id i j)) => (match getB s.ms id, tcsC cs with
        | some (.row e d xs), some l => .bnd (xs[i]?) fun el => (match Nat.ble (j + l.length) (celD d el).length, mkD d ((celD d el).take j ++ l ++ (celD d el).drop (j + l.length)) with
          | true, some y => .bnd (setN xs i y) fun ys => .st ((s.new id (.row e d ys)).put o.dst .dead) false
          | _, _ => .no)
        | _, _ => .no)
      | _ => .no)
    | false => .no)
  | _, _ => .no
theorem storeV_ok {t : TypeId} {a x : Operand} (ho : o.op = .store t a x) : Sound P o s (storeV P o s t a x) := by
  unfold storeV
  split
  · rename_i ti cs ht hc
    split
    · rename_i hl
      split
      · rename_i id off ha
        split
        · rename_i ty cells hg
          split
          · rename_i hb
            refine sound_no .no (obs := []) ?_ trivial
            show stepX0 P o .no s.er = _
            unfold stepX0
            rw [ho]; simp only
            rw [ht, ev_er, cellC_er, hc]; simp only [Option.map_some, List.length_map]
            rw [hl]; simp only
            rw [ev_er, ha]
            show (match getM s.er.ms id with
              | some (.box ty cells) => (match Nat.ble (off + cs.length) cells.length with
                | true => some ([], (s.er.new id (.box ty (cells.take off ++ cs.map C1.er ++ cells.drop (off + cs.length)))).put o.dst .dead)
                | false => none)
              | _ => none) = _
            rw [mem_er, hg]
            show (match Nat.ble (off + cs.length) (cells.map C1.er).length with
                | true => some ([], (s.er.new id (.box ty ((cells.map C1.er).take off ++ cs.map C1.er ++ (cells.map C1.er).drop (off + cs.length)))).put o.dst .dead)
                | false => none) = _
            rw [List.length_map, hb]; simp only
            rw [put_er, new_er, ← List.map_take, ← List.map_drop, ← List.map_append, ← List.map_append]; rfl
          · trivial
        · trivial
      · rename_i id i j ha
        split
        · rename_i e d xs l hg htc
          intro el hel
          simp only
          split
          · rename_i y hb hy
            intro ys hys
            have hys : xs.set i y = ys := Option.some.inj hys
            have e4 := (tcsC_er htc).2
            have e5 := mkD_ok hy
            rw [List.map_append, List.map_append, List.map_take, List.map_drop, celD_er] at e5
            refine sound_no (.set (enc B d el) (ys.map (enc B d))) (obs := [(xs.map (enc B d))[i]? = some (enc B d el), RowOb ((xs.map (enc B d)).set i ((enc B d el).take j ++ l.map TC.er ++ (enc B d el).drop (j + (l.map TC.er).length))) (ys.map (enc B d))]) ?_ ⟨by rw [List.getElem?_map, hel]; rfl, ?_, trivial⟩
            · show stepX0 P o (.set (enc B d el) (ys.map (enc B d))) s.er = _
              unfold stepX0
              rw [ho]; simp only
              rw [ht, ev_er, cellC_er, hc]; simp only [Option.map_some, List.length_map]
              rw [hl]; simp only
              rw [ev_er, ha]
              show (match getM s.er.ms id, cellsT (cs.map C1.er), Orc.set (enc B d el) (ys.map (enc B d)) with
                | some (.row e k xs), some l, .set el ys => (match Nat.ble (j + l.length) el.length with
                  | true => some ([xs[i]? = some el, RowOb (xs.set i (el.take j ++ l ++ el.drop (j + l.length))) ys], (s.er.new id (.row e k ys)).put o.dst .dead)
                  | false => none)
                | _, _, _ => none) = _
              rw [mem_er, hg, e4]
              show (match Nat.ble (j + (l.map TC.er).length) (enc B d el).length with
                  | true => some ([(xs.map (enc B d))[i]? = some (enc B d el), RowOb ((xs.map (enc B d)).set i ((enc B d el).take j ++ l.map TC.er ++ (enc B d el).drop (j + (l.map TC.er).length))) (ys.map (enc B d))], (s.er.new id (.row e (sz B d) (ys.map (enc B d)))).put o.dst .dead)
                  | false => none) = _
              have e6 : Nat.ble (j + (l.map TC.er).length) (enc B d el).length = true := by rw [List.length_map, ← celD_er, List.length_map]; exact hb
              rw [e6]; simp only
              rw [put_er, new_er, List.length_map]; rfl
            · show (xs.map (enc B d)).set i _ = _
              rw [List.length_map, ← e5, ← hys, List.map_set]
          · trivial
        · trivial
      · trivial
    · trivial
  · trivial
def nilV (o : Oper) (s : TS B) (x : Operand) : Act B := ptrK s (s.ev x) (.st (s.put o.dst (s.ev x)) false)
theorem nilV_ok {x : Operand} (ho : o.op = .nilCheck x) : Sound P o s (nilV o s x) := by
  refine ptrK_ok fun q obs hlk hq hp hobs => sound_no q (obs := obs) ?_ hobs hlk
  rw [hq]
  unfold stepX0
  rw [ho]; simp only
  rw [ev_er, hp]; simp only
  rw [st_put]
def binV (P : Program) (o : Oper) (s : TS B) (op : BinOp) (ty : TypeId) (x y : Operand) : Act B :=
  match binB P (isPtr s.er.st (s.ev x).er) op ty (s.ev x).er (s.ev y).er with
  | some z => (match z.oneCell' with | true => .st (s.put o.dst (.c (.v z))) false | false => .no)
  | none => .no
theorem binV_ok {op : BinOp} {ty : TypeId} {x y : Operand} {k : TypeId} (ho : o.op = .binOp op ty x y k) : Sound P o s (binV P o s op ty x y) := by
  unfold binV
  split
  · rename_i z hz
    split
    · rename_i h1
      refine sound_no .no (obs := []) ?_ trivial
      show stepX0 P o .no s.er = _
      unfold stepX0
      rw [ho]; simp only
      unfold binA
      rw [ev_er, ev_er, hz]; simp only
      rw [h1]; simp only
      rw [put_er]; rfl
    · trivial
  · trivial
def unV (o : Oper) (s : TS B) (op : UnOp) (x : Operand) : Act B :=
  match s.ev x with
  | .v (.c (.d (.t (.v y)))) => (match unF op y with | some z => (match z.oneCell' with | true => .st (s.put o.dst (.c (.v z))) false | false => .no) | none => .no)
  | _ => .no
theorem unV_ok {op : UnOp} {ty : TypeId} {x : Operand} (ho : o.op = .unOp op ty x) : Sound P o s (unV o s op x) := by
  unfold unV
  split
  · rename_i y hx
    split
    · rename_i z hz
      split
      · rename_i h1
        refine sound_no .no (obs := []) ?_ trivial
        show stepX0 P o .no s.er = _
        unfold stepX0
        rw [ho]; simp only
        rw [ev_er, hx]
        show (match unF op y with | some z => (match z.oneCell' with | true => some ([], s.er.put o.dst (.v z)) | false => none) | none => none) = _
        rw [hz]; simp only
        rw [h1]; simp only
        rw [put_er]; rfl
      · trivial
    · trivial
  · trivial
def convV (P : Program) (o : Oper) (s : TS B) (src dst : TypeId) (x : Operand) : Act B :=
  match convA P src dst (s.ev x).er, tinfo P src with
  | some (.t (.v z)), some _ => .st (s.put o.dst (.c (.v z))) false
  | _, _ => .no
theorem convV_ok {src dst : TypeId} {x : Operand} (ho : o.op = .convert src dst x) : Sound P o s (convV P o s src dst x) := by
  unfold convV
  split
  · rename_i z ti hz ht
    refine sound_no .no (obs := []) ?_ trivial
    show stepX0 P o .no s.er = _
    unfold stepX0
    rw [ho]; simp only
    rw [ev_er, hz, ht]; simp only
    rw [put_er]; rfl
  · trivial
def faddrV (P : Program) (o : Oper) (s : TS B) (t : TypeId) (x : Operand) (f : Nat) : Act B :=
  match tinfo P t, tkind P t with
  | some ti, .strct => (match fieldV ti (s.ev x) f with | some z => ptrK s (s.ev x) (.st (s.put o.dst z) false) | none => .no)
  | _, _ => .no
theorem faddrV_ok {t : TypeId} {x : Operand} {f : Nat} (ho : o.op = .fieldAddr t x f) : Sound P o s (faddrV P o s t x f) := by
  unfold faddrV
  split
  · rename_i ti ht hk
    split
    · rename_i z hz
      refine ptrK_ok fun q obs hlk hq hp hobs => sound_no q (obs := obs) ?_ hobs hlk
      rw [hq]
      unfold stepX0
      rw [ho]; simp only
      rw [ht, hk]; simp only
      rw [ev_er, hp, fieldV_er hz]; simp only
      rw [st_put]
    · trivial
  · trivial
def fldV (P : Program) (o : Oper) (s : TS B) (t : TypeId) (x : Operand) (f : Nat) : Act B :=
  match tinfo P t, tkind P t with
  | some ti, .strct => (match subV ti (s.ev x) f with | some z => .st (s.put o.dst z) false | none => .no)
  | _, _ => .no
theorem fldV_ok {t : TypeId} {x : Operand} {f : Nat} (ho : o.op = .field t x f) : Sound P o s (fldV P o s t x f) := by
  unfold fldV
  split
  · rename_i ti ht hk
    split
    · rename_i z hz
      refine sound_no .no (obs := []) ?_ trivial
      show stepX0 P o .no s.er = _
      unfold stepX0
      rw [ho]; simp only
      rw [ht, hk]; simp only
      rw [ev_er, subV_er hz]; simp only
      rw [st_put]
    · trivial
  · trivial
def extV (o : Oper) (s : TS B) (x : Operand) (i : Nat) : Act B :=
  match s.ev x with
  | .tup cs => (match cs[i]? with | some y => .st (s.put o.dst (.v y)) false | none => .no)
  | _ => .no
theorem extV_ok {x : Operand} {i : Nat} (ho : o.op = .extract x i) : Sound P o s (extV o s x i) := by
  unfold extV
  split
  · rename_i cs hx
    split
    · rename_i y hy
      refine sound_no .no (obs := []) ?_ trivial
      show stepX0 P o .no s.er = _
      unfold stepX0
      rw [ho]; simp only
      rw [ev_er, hx]
      show (match (cs.map V2.er)[i]? with | some y => some ([], s.er.put o.dst y) | none => none) = _
      rw [List.getElem?_map, hy]
      show some ([], s.er.put o.dst (TV.v y).er) = _
      rw [st_put]
    · trivial
  · trivial
end Go.Proofs.YtcmpcbpdnaodmaaDoor
namespace Go.Proofs.YtcmpcbpdnaodmaaDoor
open Go.RowKit
set_option linter.unusedVariables false
variable {B : Tab} {P : Program} {o : Oper} {s : TS B}
def elemV (a : TV B) (n : Int) (cs : List (TC B)) : TV B :=
  match a with
  | .v (.c (.ref id)) => .c (.rptr id n.toNat 0)
  | _ => .c (.fel cs)
theorem elemV_er (a : TV B) (n : Int) (cs : List (TC B)) : (match a.er with | .ref id => A.rptr id n.toNat 0 | _ => .fel (cs.map TC.er)) = (elemV a n cs).er := by
  cases a with
  | tup l => rfl
  | v x =>
    cases x with
    | agg l => rfl
    | c x => cases x <;> rfl
def iaddrV (P : Program) (o : Oper) (s : TS B) (t : TypeId) (x i : Operand) : Act B :=
  match tinfo P t with
  | some ti => (match ti.elem with
    | some e => (match tinfo P e, listV s (s.ev x), s.ev i with
      | some te, some ⟨d, xs⟩, .v (.c (.d (.t (.v (.int k n))))) => (match Nat.beq (sz B d) te.size with
        | true => .bnd (getI xs n) fun y => .st (s.put o.dst (elemV (s.ev x) n (celD d y))) false
        | false => .no)
      | _, _, _ => .no)
    | none => .no)
  | none => .no
theorem iaddrV_ok {t : TypeId} {x i : Operand} (ho : o.op = .indexAddr t x i) : Sound P o s (iaddrV P o s t x i) := by
  unfold iaddrV
  split
  · rename_i ti ht
    split
    · rename_i e he
      split
      · rename_i te d xs k n hte hx hi
        split
        · rename_i hsz
          intro y hy
          have hob : IxOb (xs.map (enc B d)) n n.toNat (enc B d y) := ix_obx (enc B d) hy
          refine sound_no (.ix n.toNat (enc B d y)) (obs := [IxOb (xs.map (enc B d)) n n.toNat (enc B d y)]) ?_ ⟨hob, trivial⟩
          show stepX0 P o (.ix n.toNat (enc B d y)) s.er = _
          unfold stepX0
          rw [ho]; simp only
          rw [ht]; simp only
          rw [he]; simp only
          rw [hte, ev_er, ev_er, listV_er hx, hi]
          show (match Nat.beq (sz B d) te.size with
            | true => some ([IxOb (xs.map (enc B d)) n n.toNat (enc B d y)], s.er.put o.dst (match (s.ev x).er with | .ref id => .rptr id n.toNat 0 | _ => .fel (enc B d y)))
            | false => none) = _
          rw [hsz]; simp only
          rw [← st_put, ← elemV_er, celD_er]
        · trivial
      · trivial
    · trivial
  · trivial
def indexV (P : Program) (o : Oper) (s : TS B) (t : TypeId) (x i : Operand) : Act B :=
  match tkind P t, s.ev x, s.ev i with
  | .str, .v (.c (.d (.t (.v (.string s'))))), .v (.c (.d (.t (.v (.int k n))))) => .bnd (getI s'.data.toList n) fun b => .st (s.put o.dst (.c (.v (.int .u8 b.toNat)))) false
  | _, _, _ => .no
theorem indexV_ok {t : TypeId} {x i : Operand} (ho : o.op = .index t x i) : Sound P o s (indexV P o s t x i) := by
  unfold indexV
  split
  · rename_i s' k n hk hx hi
    intro b hb
    have hob : SxOb s' n n.toNat b := sx_ob (s := s'.data.toList) hb
    refine sound_no (.sx n.toNat b) (obs := [SxOb s' n n.toNat b]) ?_ ⟨hob, trivial⟩
    show stepX0 P o (.sx n.toNat b) s.er = _
    unfold stepX0
    rw [ho]; simp only
    rw [hk, ev_er, ev_er, hx, hi]
    show some ([SxOb s' n n.toNat b], s.er.put o.dst (.v (.int .u8 b.toNat))) = _
    rw [← st_put]; rfl
  · trivial
def lenV (P : Program) (o : Oper) (s : TS B) (ty : TypeId) (x : Operand) : Act B :=
  match tkind P ty, s.ev x with
  | .str, .v (.c (.d (.t (.v (.string s'))))) => .st (s.put o.dst (.c (.v (.int .i64 s'.size)))) false
  | .slice, .v (.c (.d (.t (.v (.slice none 0 0))))) => .st (s.put o.dst (.c (.v (.int .i64 0)))) false
  | .slice, a => (match listV s a with | some ⟨d, xs⟩ => .st (s.put o.dst (.c (.v (.int .i64 xs.length)))) false | none => .no)
  | _, _ => .no
theorem lenV_ok {c : Call} {x : Operand} {ty : TypeId} {l : List TypeId} (ho : o.op = .call c) (hc : c.callee = .builtin .len) (ha : c.args.toList = [x]) (ht : c.argTypes.toList = ty :: l) : Sound P o s (lenV P o s ty x) := by
  unfold lenV
  split
  · rename_i s' hk hx
    refine sound_no .no (obs := []) ?_ trivial
    show stepX0 P o .no s.er = _
    unfold stepX0
    rw [ho]; simp only
    rw [hc, ha, ht]; simp only
    rw [ev_er, hx]
    unfold lenA
    rw [hk]
    show some ([], s.er.put o.dst (.v (.int .i64 s'.size))) = _
    rw [← st_put]; rfl
  · rename_i hk hx
    refine sound_no .no (obs := []) ?_ trivial
    show stepX0 P o .no s.er = _
    unfold stepX0
    rw [ho]; simp only
    rw [hc, ha, ht]; simp only
    rw [ev_er, hx]
    unfold lenA
    rw [hk]
    show some ([], s.er.put o.dst (.v (.int .i64 0))) = _
    rw [← st_put]; rfl
  · rename_i hk hx
    split
    · rename_i d xs hl
      refine sound_no (.len xs.length) (obs := [(xs.map (enc B d)).length = xs.length]) ?_ ⟨List.length_map _, trivial⟩
      show stepX0 P o (.len xs.length) s.er = _
      unfold stepX0
      rw [ho]; simp only
      rw [hc, ha, ht]; simp only
      rw [ev_er, hk, listV_er hl]
      show some ([(xs.map (enc B d)).length = xs.length], s.er.put o.dst (.v (.int .i64 xs.length))) = _
      rw [← st_put]; rfl
    · trivial
  · trivial
def appV (P : Program) (o : Oper) (s : TS B) (t t' : TypeId) (x y : Operand) : Act B :=
  match o.dst, tinfo P t with
  | some d, some ti => (match ti.elem with
    | some e => (match tinfo P e, listV s (s.ev y) with
      | some te, some ⟨k, ys⟩ => (match Nat.beq t t' && Nat.blt 0 te.size && Nat.beq (sz B k) te.size, usedB s.ms d with
        | true, false =>
          (match s.ev x with
          | .v (.c (.d (.t (.v (.slice none 0 0))))) => .bnd (appD te.bytes [] ys) fun zs => .st ((s.new d (.row e k zs)).put (some d) (.c (.ref d))) false
          | .v (.c (.ref id)) => (match getB s.ms id with
            | some (.row e' k' xs) => (match Nat.beq e' e, asD k' k xs with
              | true, some xs => .bnd (appD te.bytes xs ys) fun zs => .st (((s.del id).new d (.row e k zs)).put (some d) (.c (.ref d))) false
              | _, _ => .no)
            | _ => .no)
          | _ => .no)
        | _, _ => .no)
      | _, _ => .no)
    | none => .no)
  | _, _ => .no
theorem appV_ok {c : Call} {x y : Operand} {t t' : TypeId} (ho : o.op = .call c) (hc : c.callee = .builtin .append) (ha : c.args.toList = [x, y]) (hT : c.argTypes.toList = [t, t']) : Sound P o s (appV P o s t t' x y) := by
  unfold appV
  split
  · rename_i d ti hd ht
    split
    · rename_i e he
      split
      · rename_i te k ys hte hy
        split
        · rename_i hk hu
          have hsz : sz B k = te.size := by simp only [Bool.and_eq_true] at hk; exact beq_t hk.2
          split
          · rename_i hx
            intro zs hz
            refine sound_no (.rows (zs.map (enc B k))) (obs := [AppOb te.bytes (ys.map (enc B k)).length, RowOb (ys.map (enc B k)) (zs.map (enc B k))]) ?_ ⟨ape_a (enc B k) hz, ape_r (enc B k) hz, trivial⟩
            show stepX0 P o (.rows (zs.map (enc B k))) s.er = _
            unfold stepX0
            rw [ho]; simp only
            rw [hc, ha, hT]; simp only
            rw [hd, ht]; simp only
            rw [he]; simp only
            rw [hte, ev_er, listV_er hy]; simp only
            rw [used_er, hu, hk]; simp only
            rw [ev_er, hx]
            show some ([AppOb te.bytes (ys.map (enc B k)).length, RowOb (ys.map (enc B k)) (zs.map (enc B k))], (s.er.new d (.row e te.size (zs.map (enc B k)))).put (some d) (.ref d)) = _
            rw [← hsz]; rfl
          · rename_i id hx
            split
            · rename_i e' k' xs' hg
              split
              · rename_i xs he' hxs
                intro zs hz
                obtain ⟨h1, h2⟩ := asD_enc hxs
                refine sound_no (.rows (zs.map (enc B k))) (obs := [AppOb te.bytes ((xs.map (enc B k)).length + (ys.map (enc B k)).length), RowOb (xs.map (enc B k) ++ ys.map (enc B k)) (zs.map (enc B k))]) ?_ ⟨apd_a (enc B k) hz, apd_r (enc B k) hz, trivial⟩
                show stepX0 P o (.rows (zs.map (enc B k))) s.er = _
                unfold stepX0
                rw [ho]; simp only
                rw [hc, ha, hT]; simp only
                rw [hd, ht]; simp only
                rw [he]; simp only
                rw [hte, ev_er, listV_er hy]; simp only
                rw [used_er, hu, hk]; simp only
                rw [ev_er, hx]
                show (match getM s.er.ms id with
                  | some (.row e' k'' xs2) => (match Nat.beq e' e && Nat.beq k'' te.size with
                    | true => some ([AppOb te.bytes (xs2.length + (ys.map (enc B k)).length), RowOb (xs2 ++ ys.map (enc B k)) (zs.map (enc B k))], ((s.er.del id).new d (.row e te.size (zs.map (enc B k)))).put (some d) (.ref d))
                    | false => none)
                  | _ => none) = _
                rw [mem_er, hg]
                show (match Nat.beq e' e && Nat.beq (sz B k') te.size with
                    | true => some ([AppOb te.bytes ((xs'.map (enc B k')).length + (ys.map (enc B k)).length), RowOb (xs'.map (enc B k') ++ ys.map (enc B k)) (zs.map (enc B k))], ((s.er.del id).new d (.row e te.size (zs.map (enc B k)))).put (some d) (.ref d))
                    | false => none) = _
                rw [h1, h2, he', ← hsz, show Nat.beq (sz B k) (sz B k) = true from Nat.beq_refl _]
                rfl
              · trivial
            · trivial
          · trivial
        · trivial
      · trivial
    · trivial
  · trivial
end Go.Proofs.YtcmpcbpdnaodmaaDoor
namespace Go.Proofs.YtcmpcbpdnaodmaaDoor
open Go.RowKit
set_option linter.unusedVariables false
variable {B : Tab} {P : Program}
structure CC where
  R : List (Nat × Nat)
  F : List Nat
  Z : List (Nat × Nat × Nat)
  p : Nat → Option Nat
def cvL (v : CC) (gm : Nat → Option Blk) (nt : Option NilTo) (a : A) : Option A :=
  match a with
  | .t x => (match nt, x with
    | some (.sl k), .v (.slice none 0 0) => some (.t (.sl k []))
    | some (.row id), .v (.slice none 0 0) => (match memN (v.Z.map (·.1)) id with | true => some (.ref id) | false => none)
    | _, x => some (.t x))
  | .ref j => (match rnm v.R j with
    | some i => some (.ref i)
    | none => (match memN v.F j, gm j with | true, some (.row e k xs) => some (.t (.sl k xs)) | _, _ => none))
  | .ptr j o => (match v.p j with | some i => some (.ptr i o) | none => none)
  | .ifc t j o => (match v.p j with | some i => some (.ifc t i o) | none => none)
  | .rptr j p q => (match rnm v.R j with | some i => some (.rptr i p q) | none => none)
  | .ob j => (match rnm v.R j with | some i => some (.ob i) | none => none)
  | .fel x => some (.fel x)
  | _ => none
def CV.cc (v : CV) : CC := ⟨v.R, v.F, v.Z, fun j => match memN v.B j with | true => some j | false => none⟩
def IOV.cc (v : IOV) : CC := ⟨v.R, v.F, v.Z, rnm v.B⟩
theorem convL_cc (v : CV) (ms : List (Nat × Option Blk)) (nt : Option NilTo) (a : A) : convL v ms nt a = cvL v.cc (getM ms) nt a := by
  cases a with
  | ptr j o =>
    show (match memN v.B j with | true => some (A.ptr j o) | false => none) = (match (match memN v.B j with | true => some j | false => none) with | some i => some (A.ptr i o) | none => none)
    cases memN v.B j <;> rfl
  | ifc t j o =>
    show (match memN v.B j with | true => some (A.ifc t j o) | false => none) = (match (match memN v.B j with | true => some j | false => none) with | some i => some (A.ifc t i o) | none => none)
    cases memN v.B j <;> rfl
  | _ => rfl
theorem ioL_cc (v : IOV) (gm : Nat → Option Blk) (nt : Option NilTo) (a : A) : ioL v gm nt a = cvL v.cc gm nt a := by cases a <;> rfl
inductive UV where
  | dat (d : D)
  | own (id : Nat) (e : TypeId) (d : D)
  | lit (x : Value)
  | ptr (id off : Nat)
  | map (id : Nat) (k d : D)
  | fpd (i : Nat)
  | ifc (ty : TypeId) (id off : Nat)
  | ifi (ty : TypeId) (k : IntKind)
def UVt (B : Tab) : UV → Type
  | .dat d => E B d
  | .own _ _ d => List (E B d)
  | .map _ k d => E B (.map k d)
  | .fpd i => B.ty i
  | .ifi _ _ => Int
  | _ => Unit
def UV.inst : (u : UV) → UVt B u → C1 B
  | .dat d, x => .d (leafC d x)
  | .own id _ _, _ => .ref id
  | .lit x, _ => .d (.t (.v x))
  | .ptr id off, _ => .ptr id off
  | .map id _ _, _ => .ob id
  | .fpd i, x => .d (.fp i x 0)
  | .ifc t id off, _ => .ifc t id off
  | .ifi t k, x => .d (.t (.v (.iface t (.int k x))))
def UV.rows : (u : UV) → UVt B u → List (Nat × TB B)
  | .own id e d, x => [(id, .row e d x)]
  | .map id k d, x => [(id, .map k d x)]
  | _, _ => []
def eqI (a b : Int) : Bool := match decEq a b with | .isTrue _ => true | .isFalse _ => false
theorem eqI_eq {a b : Int} (h : eqI a b = true) : a = b := by
  unfold eqI at h
  split at h
  · assumption
  · cases h
def sameV : Value → Value → Bool
  | .int k n, .int k' n' => eqK k k' && eqI n n'
  | .bool true, .bool true => true
  | .bool false, .bool false => true
  | .slice none 0 0, .slice none 0 0 => true
  | .pointer none, .pointer none => true
  | .string ⟨⟨[]⟩⟩, .string ⟨⟨[]⟩⟩ => true
  | _, _ => false
theorem sameV_eq {a b : Value} (h : sameV a b = true) : a = b := by
  unfold sameV at h
  split at h
  · simp only [Bool.and_eq_true] at h
    rw [eqK_eq h.1, eqI_eq h.2]
  · rfl
  · rfl
  · rfl
  · rfl
  · rfl
  · cases h
def packDat (v : CC) (ms : List (Nat × Option (TB B))) (nt : Option NilTo) (d : D) (c : C1 B) : Option (E B d) :=
  match c with
  | .ref j => (match rnm v.R j, memN v.F j, getB ms j with
    | none, true, some (.row _ d' xs) => (match d with | .sl k => asD d' k xs | _ => none)
    | _, _, _ => none)
  | .d (.t (.v (.slice none 0 0))) => (match d, nt with | .sl k, some (.sl n) => (match Nat.beq n (sz B k) with | true => some ([] : List (E B k)) | false => none) | _, _ => none)
  | .d x => leafM d x
  | _ => none
theorem leafM_leaf {d : D} {c : TC B} {x : E B d} (h : leafM d c = some x) : leafD d = true := by
  cases d <;> first | rfl | cases h
theorem leafM_er {d : D} {c : TC B} {x : E B d} (h : leafM d c = some x) : (leafC d x).er = c.er := by
  have h1 := leafM_ok h
  rw [leafC_er d x (leafM_leaf h)] at h1
  exact (List.cons.inj h1).1
theorem leafC_nn : ∀ (d : D) (x : E B d), (leafC d x).er ≠ .v (.slice none 0 0)
  | .int _, _, h => by cases h
  | .bool, _, h => by cases h
  | .str, _, h => by cases h
  | .sl _, _, h => by cases h
  | .nat _, _, h => by cases h
  | .map _ _, _, h => by cases h
theorem cvL_t {v : CC} {gm : Nat → Option Blk} {nt : Option NilTo} {x : T} (h : x ≠ .v (.slice none 0 0)) : cvL v gm nt (.t x) = some (.t x) := by
  show (match nt, x with
    | some (.sl k), .v (.slice none 0 0) => some (A.t (.sl k []))
    | some (.row id), .v (.slice none 0 0) => (match memN (v.Z.map fun (p : Nat × Nat × Nat) => p.1) id with | true => some (A.ref id) | false => none)
    | _, x => some (A.t x)) = _
  split
  · exact (h rfl).elim
  · exact (h rfl).elim
  · rfl
theorem packDat_ok {v : CC} {ms : List (Nat × Option (TB B))} {nt : Option NilTo} {d : D} {c : C1 B} {x : E B d} (h : packDat v ms nt d c = some x) : cvL v (fun j => (getB ms j).map TB.er) nt c.er = some (C1.d (leafC d x)).er := by
  unfold packDat at h
  split at h
  · rename_i j
    split at h
    · rename_i e d' xs h1 h2 h3
      cases d with
      | sl k =>
        obtain ⟨e1, e2⟩ := asD_enc (show asD d' k xs = some x from h)
        show (match rnm v.R j with
          | some i => some (A.ref i)
          | none => (match memN v.F j, (getB ms j).map TB.er with | true, some (.row e k xs) => some (A.t (.sl k xs)) | _, _ => none)) = _
        rw [h1, h2, h3]
        show some (A.t (.sl (sz B d') (xs.map (enc B d')))) = some (A.t (.sl (sz B k) (List.map (enc B k) x)))
        rw [e1, e2]
      | _ => cases h
    · cases h
  · split at h
    · rename_i k n
      split at h
      · rename_i hn
        cases h
        show some (A.t (.sl n [])) = some (A.t (.sl (sz B k) (List.map (enc B k) [])))
        rw [beq_t hn]; rfl
      · cases h
    · cases h
  · rename_i y hn
    have e := leafM_er h
    show cvL v _ nt (.t y.er) = some (A.t (leafC d x).er)
    rw [← e]
    exact cvL_t (leafC_nn d x)
  · cases h
def zAt : List (Nat × Nat × Nat) → Nat → TypeId → Nat → Bool
  | [], _, _, _ => false
  | (i, e, k) :: l, id, e', k' => match Nat.beq i id with | true => Nat.beq e e' && Nat.beq k k' | false => zAt l id e' k'
theorem zAt_mem : ∀ {l : List (Nat × Nat × Nat)} {id : Nat} {e : TypeId} {k : Nat}, zAt l id e k = true → (id, Blk.row e k []) ∈ convZ l
  | (i, e', k') :: l, id, e, k, h => by
    unfold zAt at h
    split at h
    · rename_i h1
      simp only [Bool.and_eq_true] at h
      rw [← beq_t h1, ← beq_t h.1, ← beq_t h.2]
      exact List.mem_cons_self
    · exact List.mem_cons_of_mem _ (zAt_mem h)
def packOwn (v : CC) (ms : List (Nat × Option (TB B))) (nt : Option NilTo) (id : Nat) (e : TypeId) (d : D) (c : C1 B) : Option (List (E B d)) :=
  match c with
  | .ref j => (match isId id (rnm v.R j), getB ms j with
    | true, some (.row e' d' xs) => (match Nat.beq e' e with | true => asD d' d xs | false => none)
    | _, _ => none)
  | .d (.t (.v (.slice none 0 0))) => (match nt with
    | some (.row i) => (match Nat.beq i id && (memN (v.Z.map (·.1)) id && zAt v.Z id e (sz B d)) with | true => some [] | false => none)
    | _ => none)
  | _ => none
theorem packOwn_ok {v : CC} {ms : List (Nat × Option (TB B))} {nt : Option NilTo} {id : Nat} {e : TypeId} {d : D} {c : C1 B} {x : List (E B d)} (h : packOwn v ms nt id e d c = some x) : cvL v (fun j => (getB ms j).map TB.er) nt c.er = some (.ref id) := by
  unfold packOwn at h
  split at h
  · rename_i j
    split at h
    · rename_i e' d' xs h1 h2
      show (match rnm v.R j with
        | some i => some (A.ref i)
        | none => (match memN v.F j, (getB ms j).map TB.er with | true, some (.row e k xs) => some (A.t (.sl k xs)) | _, _ => none)) = _
      rw [isId_iff h1]
    · cases h
  · split at h
    · rename_i i
      split at h
      · rename_i hk
        simp only [Bool.and_eq_true] at hk
        show (match memN (v.Z.map (·.1)) i with | true => some (A.ref i) | false => none) = _
        rw [beq_t hk.1, hk.2.1]
      · cases h
    · cases h
  · cases h
def packLit (nt : Option NilTo) (x : Value) : C1 B → Option Unit
  | .d (.t (.v y)) => (match nt with | none => (match sameV x y with | true => some () | false => none) | some _ => none)
  | _ => none
theorem packLit_ok {v : CC} {gm : Nat → Option Blk} {nt : Option NilTo} {z : Value} {c : C1 B} {x : Unit} (h : packLit nt z c = some x) : cvL v gm nt c.er = some (.t (.v z)) := by
  unfold packLit at h
  split at h
  · rename_i y
    split at h
    · split at h
      · rename_i h1; rw [sameV_eq h1]; rfl
      · cases h
    · cases h
  · cases h
def packPtr (v : CC) (id off : Nat) : C1 B → Option Unit
  | .ptr j o => (match isId id (v.p j) && Nat.beq o off with | true => some () | false => none)
  | _ => none
theorem packPtr_ok {v : CC} {gm : Nat → Option Blk} {nt : Option NilTo} {id off : Nat} {c : C1 B} {x : Unit} (h : packPtr v id off c = some x) : cvL v gm nt c.er = some (.ptr id off) := by
  unfold packPtr at h
  split at h
  · rename_i j o
    split at h
    · rename_i h1
      simp only [Bool.and_eq_true] at h1
      show (match v.p j with | some i => some (A.ptr i o) | none => none) = some (A.ptr id off)
      rw [isId_iff h1.1, beq_t h1.2]
    · cases h
  · cases h
def packIfc (v : CC) (t : TypeId) (id off : Nat) : C1 B → Option Unit
  | .ifc t' j o => (match Nat.beq t' t && (isId id (v.p j) && Nat.beq o off) with | true => some () | false => none)
  | _ => none
theorem packIfc_ok {v : CC} {gm : Nat → Option Blk} {nt : Option NilTo} {t : TypeId} {id off : Nat} {c : C1 B} {x : Unit} (h : packIfc v t id off c = some x) : cvL v gm nt c.er = some (.ifc t id off) := by
  unfold packIfc at h
  split at h
  · rename_i t' j o
    split at h
    · rename_i h1
      simp only [Bool.and_eq_true] at h1
      show (match v.p j with | some i => some (A.ifc t' i o) | none => none) = some (A.ifc t id off)
      rw [isId_iff h1.2.1, beq_t h1.2.2, beq_t h1.1]
    · cases h
  · cases h
def packIfi (t : TypeId) (k : IntKind) : C1 B → Option Int
  | .d (.t (.v (.iface t' (.int k' n)))) => (match Nat.beq t' t && eqK k' k with | true => some n | false => none)
  | _ => none
theorem packIfi_ok {v : CC} {gm : Nat → Option Blk} {nt : Option NilTo} {t : TypeId} {k : IntKind} {c : C1 B} {x : Int} (h : packIfi t k c = some x) : cvL v gm nt c.er = some (.t (.v (.iface t (.int k x)))) := by
  unfold packIfi at h
  split at h
  · rename_i t' k' n
    split at h
    · rename_i h1
      cases h
      simp only [Bool.and_eq_true] at h1
      rw [← beq_t h1.1, ← eqK_eq h1.2]
      exact cvL_t (fun h => (nomatch h))
    · cases h
  · cases h
def packMap (v : CC) (ms : List (Nat × Option (TB B))) (id : Nat) (k d : D) : C1 B → Option (E B (.map k d))
  | .ob j => (match isId id (rnm v.R j), getB ms j with
    | true, some (.map k' d' es) => asE (.map k' d') (.map k d) es
    | _, _ => none)
  | _ => none
theorem packMap_ok {v : CC} {ms : List (Nat × Option (TB B))} {nt : Option NilTo} {id : Nat} {k d : D} {c : C1 B} {x : E B (.map k d)} (h : packMap v ms id k d c = some x) : cvL v (fun j => (getB ms j).map TB.er) nt c.er = some (.ob id) := by
  unfold packMap at h
  split at h
  · rename_i j
    split at h
    · rename_i k' d' es h1 h2
      show (match rnm v.R j with | some i => some (A.ob i) | none => none) = _
      rw [isId_iff h1]
    · cases h
  · cases h
def packFp (i : Nat) : C1 B → Option (B.ty i)
  | .d (.fp j x o) => (match Nat.decEq j i, Nat.beq o 0 with | .isTrue h, true => some (h ▸ x) | _, _ => none)
  | _ => none
theorem packFp_ok {v : CC} {gm : Nat → Option Blk} {nt : Option NilTo} {i : Nat} {c : C1 B} {x : B.ty i} (h : packFp i c = some x) : cvL v gm nt c.er = some (C1.d (.fp i x 0)).er := by
  unfold packFp at h
  split at h
  · split at h
    · rename_i e _ ho
      cases h
      subst e
      rw [beq_t ho]
      exact cvL_t (fun h => (nomatch h))
    · cases h
  · cases h
def UV.pack (v : CC) (ms : List (Nat × Option (TB B))) (nt : Option NilTo) : (u : UV) → C1 B → Option (UVt B u)
  | .dat d, c => packDat v ms nt d c
  | .own id e d, c => packOwn v ms nt id e d c
  | .lit x, c => packLit nt x c
  | .ptr id off, c => packPtr v id off c
  | .map id k d, c => packMap v ms id k d c
  | .fpd i, c => packFp i c
  | .ifc t id off, c => packIfc v t id off c
  | .ifi t k, c => packIfi t k c
theorem UV.pack_ok {v : CC} {ms : List (Nat × Option (TB B))} {nt : Option NilTo} {u : UV} {c : C1 B} {x : UVt B u} (h : u.pack v ms nt c = some x) : cvL v (fun j => (getB ms j).map TB.er) nt c.er = some (u.inst x).er := by
  cases u with
  | dat d => exact packDat_ok h
  | own id e d => exact packOwn_ok h
  | lit z => exact packLit_ok h
  | ptr id off => exact packPtr_ok h
  | map id k d => exact packMap_ok h
  | fpd i => exact packFp_ok h
  | ifc t id off => exact packIfc_ok h
  | ifi t k => exact packIfi_ok h
def ULt (B : Tab) : List UV → Type
  | [] => Unit
  | u :: l => UVt B u × ULt B l
def ULinst : (l : List UV) → ULt B l → List (C1 B)
  | [], _ => []
  | u :: l, x => u.inst x.1 :: ULinst l x.2
def ULrows : (l : List UV) → ULt B l → List (Nat × TB B)
  | [], _ => []
  | u :: l, x => u.rows x.1 ++ ULrows l x.2
def ULpack (v : CC) (ms : List (Nat × Option (TB B))) (sp : List (Nat × Nat × NilTo)) (t : Nat) : Nat → (l : List UV) → List (C1 B) → Option (ULt B l)
  | _, [], [] => some ()
  | j, u :: l, c :: cs => (match u.pack v ms (nilTo sp t j) c, ULpack v ms sp t (j + 1) l cs with | some x, some r => some (x, r) | _, _ => none)
  | _, _, _ => none
def cvCs (v : CC) (gm : Nat → Option Blk) (sp : List (Nat × Nat × NilTo)) (t : Nat) : Nat → List A → Option (List A)
  | _, [] => some []
  | j, a :: l => match cvL v gm (nilTo sp t j) a, cvCs v gm sp t (j + 1) l with | some x, some r => some (x :: r) | _, _ => none
theorem convCs_cc (v : CV) (ms : List (Nat × Option Blk)) (sp : List (Nat × Nat × NilTo)) (t : Nat) : ∀ (l : List A) (j : Nat), convCs v ms sp t j l = cvCs v.cc (getM ms) sp t j l
  | [], _ => rfl
  | a :: l, j => by
    unfold convCs cvCs
    rw [convL_cc, convCs_cc v ms sp t l]
    rfl
theorem ioCs_cc (v : IOV) (gm : Nat → Option Blk) (sp : List (Nat × Nat × NilTo)) (t : Nat) : ∀ (l : List A) (j : Nat), ioCs v gm sp t j l = cvCs v.cc gm sp t j l
  | [], _ => rfl
  | a :: l, j => by
    unfold ioCs cvCs
    rw [ioL_cc, ioCs_cc v gm sp t l]
    rfl
theorem ULpack_ok {v : CC} {ms : List (Nat × Option (TB B))} {sp : List (Nat × Nat × NilTo)} {t : Nat} : ∀ {l : List UV} {j : Nat} {cs : List (C1 B)} {x : ULt B l}, ULpack v ms sp t j l cs = some x →
    cvCs v (fun j => (getB ms j).map TB.er) sp t j (cs.map C1.er) = some ((ULinst l x).map C1.er)
  | [], _, [], _, _ => rfl
  | [], _, _ :: _, _, h => by cases h
  | _ :: _, _, [], _, h => by cases h
  | u :: l, j, c :: cs, x, h => by
    replace h : (match u.pack v ms (nilTo sp t j) c, ULpack v ms sp t (j + 1) l cs with | some x, some r => some (x, r) | _, _ => none) = some x := h
    split at h
    · rename_i y r h1 h2
      cases h
      show (match cvL v _ (nilTo sp t j) c.er, cvCs v _ sp t (j + 1) (cs.map C1.er) with | some x, some r => some (x :: r) | _, _ => none) = some ((u.inst y).er :: (ULinst l r).map C1.er)
      rw [UV.pack_ok h1, ULpack_ok h2]
    · cases h
def ownAt : List (Nat × TypeId) → Nat → Option TypeId
  | [], _ => none
  | (i, e) :: l, c => match Nat.beq i c with | true => some e | false => ownAt l c
def stCell (own : List (Nat × TypeId)) (base c : Nat) : (d : D) → E B d → C1 B
  | .sl k, x => (match ownAt own c with | some _ => .ref (base + c) | none => .d (.l k x))
  | .int k, x => .d (leafC (.int k) x)
  | .bool, x => .d (leafC .bool x)
  | .str, x => .d (leafC .str x)
  | .nat i, x => .d (leafC (.nat i) x)
  | .map k d, _ => .ob (base + c)
def stRow (own : List (Nat × TypeId)) (base c : Nat) : (d : D) → E B d → List (Nat × TB B)
  | .sl k, x => (match ownAt own c with | some e => [(base + c, .row e k x)] | none => [])
  | .map k d, x => [(base + c, .map k d x)]
  | _, _ => []
def stPack1 (v : CC) (ms : List (Nat × Option (TB B))) (nt : Option NilTo) (own : List (Nat × TypeId)) (base c : Nat) : (d : D) → C1 B → Option (E B d)
  | .sl k, x => (match ownAt own c with | some e => packOwn v ms nt (base + c) e k x | none => packDat v ms nt (.sl k) x)
  | .int k, x => packDat v ms nt (.int k) x
  | .bool, x => packDat v ms nt .bool x
  | .str, x => packDat v ms nt .str x
  | .nat i, x => packDat v ms nt (.nat i) x
  | .map k d, x => packMap v ms (base + c) k d x
theorem stPack1_ok {v : CC} {ms : List (Nat × Option (TB B))} {nt : Option NilTo} {own : List (Nat × TypeId)} {base c : Nat} {d : D} {y : C1 B} {x : E B d} (h : stPack1 v ms nt own base c d y = some x) : cvL v (fun j => (getB ms j).map TB.er) nt y.er = some (stCell own base c d x).er := by
  cases d with
  | sl k =>
    replace h : (match ownAt own c with | some e => packOwn v ms nt (base + c) e k y | none => packDat v ms nt (.sl k) y) = some x := h
    show _ = some ((match ownAt own c with | some _ => .ref (base + c) | none => .d (.l k x) : C1 B)).er
    split at h
    · exact packOwn_ok h
    · exact packDat_ok h
  | map k d => exact packMap_ok h
  | _ => exact packDat_ok h
def stC (own : List (Nat × TypeId)) (base : Nat) : Nat → (l : List D) → Tup B.toTab0 l → List (C1 B)
  | _, [], _ => []
  | c, d :: l, x => stCell own base c d x.1 :: stC own base (c + 1) l x.2
def stR (own : List (Nat × TypeId)) (base : Nat) : Nat → (l : List D) → Tup B.toTab0 l → List (Nat × TB B)
  | _, [], _ => []
  | c, d :: l, x => stRow own base c d x.1 ++ stR own base (c + 1) l x.2
def stPack (v : CC) (ms : List (Nat × Option (TB B))) (sp : List (Nat × Nat × NilTo)) (t : Nat) (own : List (Nat × TypeId)) (base : Nat) : Nat → (l : List D) → List (C1 B) → Option (Tup B.toTab0 l)
  | _, [], [] => some ()
  | c, d :: l, y :: cs => (match stPack1 v ms (nilTo sp t c) own base c d y, stPack v ms sp t own base (c + 1) l cs with | some x, some r => some (x, r) | _, _ => none)
  | _, _, _ => none
theorem stPack_ok {v : CC} {ms : List (Nat × Option (TB B))} {sp : List (Nat × Nat × NilTo)} {t : Nat} {own : List (Nat × TypeId)} {base : Nat} : ∀ {l : List D} {c : Nat} {cs : List (C1 B)} {x : Tup B.toTab0 l}, stPack v ms sp t own base c l cs = some x →
    cvCs v (fun j => (getB ms j).map TB.er) sp t c (cs.map C1.er) = some ((stC own base c l x).map C1.er)
  | [], _, [], _, _ => rfl
  | [], _, _ :: _, _, h => by cases h
  | _ :: _, _, [], _, h => by cases h
  | d :: l, c, y :: cs, x, h => by
    replace h : (match stPack1 v ms (nilTo sp t c) own base c d y, stPack v ms sp t own base (c + 1) l cs with | some x, some r => some (x, r) | _, _ => none) = some x := h
    split at h
    · rename_i z r h1 h2
      cases h
      show (match cvL v _ (nilTo sp t c) y.er, cvCs v _ sp t (c + 1) (cs.map C1.er) with | some x, some r => some (x :: r) | _, _ => none) = some ((stCell own base c d z).er :: (stC own base (c + 1) l r).map C1.er)
      rw [stPack1_ok h1, stPack_ok h2]
    · cases h
inductive SV where
  | one (u : UV)
  | agg (l : List UV)
  | st (i : Nat) (own : List (Nat × TypeId)) (base : Nat)
def SVt (B : Tab) : SV → Type
  | .one u => UVt B u
  | .agg l => ULt B l
  | .st i _ _ => B.ty i
def SV.inst : (v : SV) → SVt B v → V2 B
  | .one u, x => .c (u.inst x)
  | .agg l, x => .agg (ULinst l x)
  | .st i own base, x => .agg (stC own base 0 (B.lv i) (B.cells i x))
def SV.rows : (v : SV) → SVt B v → List (Nat × TB B)
  | .one u, x => u.rows x
  | .agg l, x => ULrows l x
  | .st i own base, x => stR own base 0 (B.lv i) (B.cells i x)
def SV.pack (v : CC) (ms : List (Nat × Option (TB B))) (sp : List (Nat × Nat × NilTo)) (t : Nat) : (w : SV) → V2 B → Option (SVt B w)
  | .one u, .c c => u.pack v ms (nilTo sp t 0) c
  | .agg l, .agg cs => ULpack v ms sp t 0 l cs
  | .st i own base, .agg cs => (match stPack v ms sp t own base 0 (B.lv i) cs with | some x => some (B.put i x) | none => none)
  | _, _ => none
def cv2 (v : CC) (gm : Nat → Option Blk) (sp : List (Nat × Nat × NilTo)) (t : Nat) (a : A) : Option A :=
  match a with
  | .agg cs => (match cvCs v gm sp t 0 cs with | some r => some (.agg r) | none => none)
  | a => cvL v gm (nilTo sp t 0) a
theorem SV.pack_ok {v : CC} {ms : List (Nat × Option (TB B))} {sp : List (Nat × Nat × NilTo)} {t : Nat} {w : SV} {a : V2 B} {x : SVt B w} (h : w.pack v ms sp t a = some x) : cv2 v (fun j => (getB ms j).map TB.er) sp t a.er = some (w.inst x).er := by
  cases w with
  | one u =>
    cases a with
    | agg cs => cases h
    | c c =>
      have e : cv2 v (fun j => (getB ms j).map TB.er) sp t c.er = cvL v (fun j => (getB ms j).map TB.er) (nilTo sp t 0) c.er := by
        cases c <;> rfl
      exact e.trans (UV.pack_ok h)
  | agg l =>
    cases a with
    | c c => cases h
    | agg cs =>
      show (match cvCs v _ sp t 0 (cs.map C1.er) with | some r => some (A.agg r) | none => none) = _
      rw [ULpack_ok h]; rfl
  | st i own base =>
    cases a with
    | c c => cases h
    | agg cs =>
      replace h : (match stPack v ms sp t own base 0 (B.lv i) cs with | some x => some (B.put i x) | none => none) = some x := h
      split at h
      · rename_i y h1
        have e : B.put i y = x := Option.some.inj h
        show (match cvCs v _ sp t 0 (cs.map C1.er) with | some r => some (A.agg r) | none => none) = some (A.agg ((stC own base 0 (B.lv i) (B.cells i x)).map C1.er))
        rw [stPack_ok h1, ← e, B.cp]
      · cases h
theorem convR_mem : ∀ {R : List (Nat × Nat)} {ms : List (Nat × Option Blk)} {rs : List (Nat × Blk)} {j i : Nat} {b : Blk}, convR ms R = some rs → (j, i) ∈ R → getM ms j = some b → (i, b) ∈ rs
  | (a, c) :: R, ms, rs, j, i, b, h, hm, hb => by
    unfold convR at h
    rcases List.mem_cons.1 hm with he | hm
    · cases he
      rw [hb] at h
      cases b with
      | box => cases h
      | row e k xs =>
        simp only at h
        split at h
        · cases h; exact List.mem_cons_self
        · cases h
      | obj od =>
        simp only at h
        split at h
        · cases h; exact List.mem_cons_self
        · cases h
    · split at h
      · split at h
        · rename_i rest hr; cases h; exact List.mem_cons_of_mem _ (convR_mem hr hm hb)
        · cases h
      · split at h
        · rename_i rest hr; cases h; exact List.mem_cons_of_mem _ (convR_mem hr hm hb)
        · cases h
      · cases h
def RowsIn (M : List (Nat × Blk)) (l : List (Nat × TB B)) : Prop := ∀ p ∈ l, (p.1, p.2.er) ∈ M
def Src (v : CC) (ms : List (Nat × Option (TB B))) (M : List (Nat × Blk)) : Prop :=
  (∀ j i b, (j, i) ∈ v.R → getB ms j = some b → (i, b.er) ∈ M) ∧ ∀ p ∈ convZ v.Z, p ∈ M
theorem RowsIn.app {M : List (Nat × Blk)} {l r : List (Nat × TB B)} (h1 : RowsIn M l) (h2 : RowsIn M r) : RowsIn M (l ++ r) := fun p hp => by
  rcases List.mem_append.1 hp with h | h
  · exact h1 p h
  · exact h2 p h
theorem packOwn_in {v : CC} {ms : List (Nat × Option (TB B))} {M : List (Nat × Blk)} (hs : Src v ms M) {nt : Option NilTo} {id : Nat} {e : TypeId} {d : D} {c : C1 B} {x : List (E B d)} (h : packOwn v ms nt id e d c = some x) : RowsIn M [(id, .row e d x)] := by
  intro p hp
  rw [List.mem_singleton.1 hp]
  unfold packOwn at h
  split at h
  · rename_i j
    split at h
    · rename_i e' d' xs h1 h2
      split at h
      · rename_i he
        obtain ⟨e1, e2⟩ := asD_enc h
        have h3 := hs.1 j id _ (rnm_mem (isId_iff h1)) h2
        show (id, Blk.row e (sz B d) (x.map (enc B d))) ∈ M
        rw [← e1, ← e2, ← beq_t he]
        exact h3
      · cases h
    · cases h
  · split at h
    · rename_i i
      split at h
      · rename_i hk
        cases h
        simp only [Bool.and_eq_true] at hk
        exact hs.2 _ (zAt_mem hk.2.2)
      · cases h
    · cases h
  · cases h
theorem packMap_in {v : CC} {ms : List (Nat × Option (TB B))} {M : List (Nat × Blk)} (hs : Src v ms M) {id : Nat} {k d : D} {c : C1 B} {x : E B (.map k d)} (h : packMap v ms id k d c = some x) : RowsIn M [(id, .map k d x)] := by
  intro p hp
  rw [List.mem_singleton.1 hp]
  unfold packMap at h
  split at h
  · rename_i j
    split at h
    · rename_i k' d' es h1 h2
      obtain ⟨e, e2⟩ := asE_ok h
      cases e
      cases e2
      exact hs.1 j id _ (rnm_mem (isId_iff h1)) h2
    · cases h
  · cases h
theorem UV.pack_in {v : CC} {ms : List (Nat × Option (TB B))} {M : List (Nat × Blk)} (hs : Src v ms M) {nt : Option NilTo} {u : UV} {c : C1 B} {x : UVt B u} (h : u.pack v ms nt c = some x) : RowsIn M (u.rows x) := by
  cases u with
  | own id e d => exact packOwn_in hs h
  | map id k d => exact packMap_in hs h
  | _ => intro p hp; cases hp
theorem ULpack_in {v : CC} {ms : List (Nat × Option (TB B))} {M : List (Nat × Blk)} (hs : Src v ms M) {sp : List (Nat × Nat × NilTo)} {t : Nat} : ∀ {l : List UV} {j : Nat} {cs : List (C1 B)} {x : ULt B l}, ULpack v ms sp t j l cs = some x → RowsIn M (ULrows l x)
  | [], _, _, _, _ => fun p hp => by cases hp
  | _ :: _, _, [], _, h => by cases h
  | u :: l, j, c :: cs, x, h => by
    replace h : (match u.pack v ms (nilTo sp t j) c, ULpack v ms sp t (j + 1) l cs with | some x, some r => some (x, r) | _, _ => none) = some x := h
    split at h
    · rename_i y r h1 h2
      cases h
      exact (UV.pack_in hs h1).app (ULpack_in hs h2)
    · cases h
theorem stPack1_in {v : CC} {ms : List (Nat × Option (TB B))} {M : List (Nat × Blk)} (hs : Src v ms M) {nt : Option NilTo} {own : List (Nat × TypeId)} {base c : Nat} {d : D} {y : C1 B} {x : E B d} (h : stPack1 v ms nt own base c d y = some x) : RowsIn M (stRow own base c d x) := by
  cases d with
  | sl k =>
    replace h : (match ownAt own c with | some e => packOwn v ms nt (base + c) e k y | none => packDat v ms nt (.sl k) y) = some x := h
    show RowsIn M (match ownAt own c with | some e => [(base + c, .row e k x)] | none => [])
    split at h
    · exact packOwn_in hs h
    · intro p hp; cases hp
  | map k d => exact packMap_in hs h
  | _ => intro p hp; cases hp
theorem stPack_in {v : CC} {ms : List (Nat × Option (TB B))} {M : List (Nat × Blk)} (hs : Src v ms M) {sp : List (Nat × Nat × NilTo)} {t : Nat} {own : List (Nat × TypeId)} {base : Nat} : ∀ {l : List D} {c : Nat} {cs : List (C1 B)} {x : Tup B.toTab0 l}, stPack v ms sp t own base c l cs = some x → RowsIn M (stR own base c l x)
  | [], _, _, _, _ => fun p hp => by cases hp
  | _ :: _, _, [], _, h => by cases h
  | d :: l, c, y :: cs, x, h => by
    replace h : (match stPack1 v ms (nilTo sp t c) own base c d y, stPack v ms sp t own base (c + 1) l cs with | some x, some r => some (x, r) | _, _ => none) = some x := h
    split at h
    · rename_i z r h1 h2
      cases h
      exact (stPack1_in hs h1).app (stPack_in hs h2)
    · cases h
theorem SV.pack_in {v : CC} {ms : List (Nat × Option (TB B))} {M : List (Nat × Blk)} (hs : Src v ms M) {sp : List (Nat × Nat × NilTo)} {t : Nat} {w : SV} {a : V2 B} {x : SVt B w} (h : w.pack v ms sp t a = some x) : RowsIn M (w.rows x) := by
  cases w with
  | one u =>
    cases a with
    | agg cs => cases h
    | c c => exact UV.pack_in hs h
  | agg l =>
    cases a with
    | c c => cases h
    | agg cs => exact ULpack_in hs h
  | st i own base =>
    cases a with
    | c c => cases h
    | agg cs =>
      replace h : (match stPack v ms sp t own base 0 (B.lv i) cs with | some x => some (B.put i x) | none => none) = some x := h
      split at h
      · rename_i y h1
        have e : B.put i y = x := Option.some.inj h
        show RowsIn M (stR own base 0 (B.lv i) (B.cells i x))
        rw [← e, B.cp]
        exact stPack_in hs h1
      · cases h
end Go.Proofs.YtcmpcbpdnaodmaaDoor
namespace Go.Proofs.YtcmpcbpdnaodmaaDoor
open Go.RowKit
set_option linter.unusedVariables false
variable {B : Tab} {P : Program}
inductive MB where
  | box (id : Nat) (ty : TypeId) (l : List UV)
  | st (id : Nat) (ty : TypeId) (i : Nat) (own : List (Nat × TypeId)) (base : Nat)
def MB.id : MB → Nat
  | .box id _ _ => id
  | .st id _ _ _ _ => id
def MBt (B : Tab) : MB → Type
  | .box _ _ l => ULt B l
  | .st _ _ i _ _ => B.ty i
def MB.inst : (m : MB) → MBt B m → TB B
  | .box _ ty l, x => .box ty (ULinst l x)
  | .st _ ty i own base, x => .box ty (stC own base 0 (B.lv i) (B.cells i x))
def MB.rows : (m : MB) → MBt B m → List (Nat × TB B)
  | .box _ _ l, x => ULrows l x
  | .st _ _ i own base, x => stR own base 0 (B.lv i) (B.cells i x)
def MB.pack (v : CC) (ms : List (Nat × Option (TB B))) (sp : List (Nat × Nat × NilTo)) : (m : MB) → Option (TB B) → Option (MBt B m)
  | .box id ty l, some (.box ty' cs) => (match Nat.beq ty' ty with | true => ULpack v ms sp id 0 l cs | false => none)
  | .st id ty i own base, some (.box ty' cs) => (match Nat.beq ty' ty, stPack v ms sp id own base 0 (B.lv i) cs with | true, some x => some (B.put i x) | _, _ => none)
  | _, _ => none
theorem MB.pack_ok {v : CC} {ms : List (Nat × Option (TB B))} {sp : List (Nat × Nat × NilTo)} {m : MB} {b : Option (TB B)} {x : MBt B m} (h : m.pack v ms sp b = some x) :
    ∃ ty cs cs', b = some (.box ty cs) ∧ (m.inst x).er = .box ty cs' ∧ cvCs v (fun j => (getB ms j).map TB.er) sp m.id 0 (cs.map C1.er) = some cs' := by
  cases m with
  | box id ty l =>
    cases b with
    | none => cases h
    | some b =>
      cases b with
      | box ty' cs =>
        replace h : (match Nat.beq ty' ty with | true => ULpack v ms sp id 0 l cs | false => none) = some x := h
        split at h
        · rename_i h1
          exact ⟨ty', cs, _, rfl, by rw [beq_t h1]; rfl, ULpack_ok h⟩
        · cases h
      | _ => cases h
  | st id ty i own base =>
    cases b with
    | none => cases h
    | some b =>
      cases b with
      | box ty' cs =>
        replace h : (match Nat.beq ty' ty, stPack v ms sp id own base 0 (B.lv i) cs with | true, some x => some (B.put i x) | _, _ => none) = some x := h
        split at h
        · rename_i y h1 h2
          have e : B.put i y = x := Option.some.inj h
          refine ⟨ty', cs, _, rfl, ?_, stPack_ok h2⟩
          show Blk.box ty ((stC own base 0 (B.lv i) (B.cells i x)).map C1.er) = _
          rw [beq_t h1, ← e, B.cp]
        · cases h
      | _ => cases h
theorem MB.pack_in {v : CC} {ms : List (Nat × Option (TB B))} {M : List (Nat × Blk)} (hs : Src v ms M) {sp : List (Nat × Nat × NilTo)} {m : MB} {b : Option (TB B)} {x : MBt B m} (h : m.pack v ms sp b = some x) : RowsIn M (m.rows x) := by
  cases m with
  | box id ty l =>
    cases b with
    | none => cases h
    | some b =>
      cases b with
      | box ty' cs =>
        replace h : (match Nat.beq ty' ty with | true => ULpack v ms sp id 0 l cs | false => none) = some x := h
        split at h
        · exact ULpack_in hs h
        · cases h
      | _ => cases h
  | st id ty i own base =>
    cases b with
    | none => cases h
    | some b =>
      cases b with
      | box ty' cs =>
        replace h : (match Nat.beq ty' ty, stPack v ms sp id own base 0 (B.lv i) cs with | true, some x => some (B.put i x) | _, _ => none) = some x := h
        split at h
        · rename_i y h1 h2
          have e : B.put i y = x := Option.some.inj h
          show RowsIn M (stR own base 0 (B.lv i) (B.cells i x))
          rw [← e, B.cp]
          exact stPack_in hs h2
        · cases h
      | _ => cases h
def SLt (B : Tab) : List (Nat × SV) → Type
  | [] => Unit
  | p :: l => SVt B p.2 × SLt B l
def SLinst : (l : List (Nat × SV)) → SLt B l → List (Nat × TV B)
  | [], _ => []
  | p :: l, x => (p.1, .v (p.2.inst x.1)) :: SLinst l x.2
def SLrows : (l : List (Nat × SV)) → SLt B l → List (Nat × TB B)
  | [], _ => []
  | p :: l, x => p.2.rows x.1 ++ SLrows l x.2
def svOf : TV B → Option (V2 B)
  | .v x => some x
  | .tup _ => none
def SLpack (v : CC) (ms : List (Nat × Option (TB B))) (sp : List (Nat × Nat × NilTo)) (es : List (Nat × TV B)) : (l : List (Nat × SV)) → Option (SLt B l)
  | [] => some ()
  | p :: l => (match svOf (lkT es p.1) with
    | some a => (match p.2.pack v ms sp p.1 a, SLpack v ms sp es l with | some x, some r => some (x, r) | _, _ => none)
    | none => none)
def BXt (B : Tab) : List MB → Type
  | [] => Unit
  | m :: l => MBt B m × BXt B l
def BXinst : (l : List MB) → BXt B l → List (Nat × TB B)
  | [], _ => []
  | m :: l, x => (m.id, m.inst x.1) :: BXinst l x.2
def BXrows : (l : List MB) → BXt B l → List (Nat × TB B)
  | [], _ => []
  | m :: l, x => m.rows x.1 ++ BXrows l x.2
def BXpack (v : CC) (ms : List (Nat × Option (TB B))) (sp : List (Nat × Nat × NilTo)) : (l : List MB) → Option (BXt B l)
  | [] => some ()
  | m :: l => (match m.pack v ms sp (getB ms m.id), BXpack v ms sp l with | some x, some r => some (x, r) | _, _ => none)
def erM (l : List (Nat × TB B)) : List (Nat × Blk) := l.map fun p => (p.1, p.2.er)
theorem SLpack_in {v : CC} {ms : List (Nat × Option (TB B))} {M : List (Nat × Blk)} (hs : Src v ms M) {sp : List (Nat × Nat × NilTo)} {es : List (Nat × TV B)} : ∀ {l : List (Nat × SV)} {x : SLt B l}, SLpack v ms sp es l = some x → RowsIn M (SLrows l x)
  | [], _, _ => fun p hp => by cases hp
  | p :: l, x, h => by
    replace h : (match svOf (lkT es p.1) with
      | some a => (match p.2.pack v ms sp p.1 a, SLpack v ms sp es l with | some x, some r => some (x, r) | _, _ => none)
      | none => none) = some x := h
    split at h
    · split at h
      · rename_i y r h1 h2
        cases h
        exact (SV.pack_in hs h1).app (SLpack_in hs h2)
      · cases h
    · cases h
theorem BXpack_in {v : CC} {ms : List (Nat × Option (TB B))} {M : List (Nat × Blk)} (hs : Src v ms M) {sp : List (Nat × Nat × NilTo)} : ∀ {l : List MB} {x : BXt B l}, BXpack v ms sp l = some x → RowsIn M (BXrows l x)
  | [], _, _ => fun p hp => by cases hp
  | m :: l, x, h => by
    replace h : (match m.pack v ms sp (getB ms m.id), BXpack v ms sp l with | some x, some r => some (x, r) | _, _ => none) = some x := h
    split at h
    · rename_i y r h1 h2
      cases h
      exact (MB.pack_in hs h1).app (BXpack_in hs h2)
    · cases h
theorem SLpack_ok {v : CV} {s : TS B} : ∀ {l : List (Nat × SV)} {x : SLt B l}, SLpack v.cc s.ms v.N s.es l = some x → convG v s.er (l.map (·.1)) = (SLinst l x).map fun p => (p.1, p.2.er)
  | [], _, _ => rfl
  | p :: l, x, h => by
    replace h : (match svOf (lkT s.es p.1) with
      | some a => (match p.2.pack v.cc s.ms v.N p.1 a, SLpack v.cc s.ms v.N s.es l with | some x, some r => some (x, r) | _, _ => none)
      | none => none) = some x := h
    split at h
    · rename_i a ha
      split at h
      · rename_i y r h1 h2
        cases h
        show (p.1, convS v s.er.ms p.1 (lkE s.er.es p.1)) :: convG v s.er (l.map (·.1)) = (p.1, (p.2.inst y).er) :: (SLinst l r).map fun p => (p.1, p.2.er)
        rw [SLpack_ok h2]
        congr 2
        have e1 : lkE s.er.es p.1 = a.er := by
          show lkE (s.es.map fun p => (p.1, p.2.er)) p.1 = _
          rw [lkT_er]
          cases hl : lkT s.es p.1 with
          | v z => rw [hl] at ha; cases ha; rfl
          | tup cs => rw [hl] at ha; cases ha
        have e2 := SV.pack_ok h1
        have e3 : (fun j => (getB s.ms j).map TB.er) = getM s.er.ms := by funext j; exact (mem_er s j).symm
        rw [e3] at e2
        rw [e1]
        cases a with
        | c c =>
          have e4 : cv2 v.cc (getM s.er.ms) v.N p.1 c.er = cvL v.cc (getM s.er.ms) (nilTo v.N p.1 0) c.er := by cases c <;> rfl
          have e5 : convS v s.er.ms p.1 c.er = (match convL v s.er.ms (nilTo v.N p.1 0) c.er with | some x => x | none => .dead) := by cases c <;> rfl
          show convS v s.er.ms p.1 c.er = _
          rw [e5, convL_cc, ← e4]
          rw [show cv2 v.cc (getM s.er.ms) v.N p.1 c.er = _ from e2]
        | agg cs =>
          show (match convCs v s.er.ms v.N p.1 0 (cs.map C1.er) with | some r => A.agg r | none => .dead) = _
          rw [convCs_cc]
          have e6 : (match cvCs v.cc (getM s.er.ms) v.N p.1 0 (cs.map C1.er) with | some r => some (A.agg r) | none => none) = some (p.2.inst y).er := e2
          split at e6
          · exact Option.some.inj e6
          · cases e6
      · cases h
    · cases h
theorem BXpack_ok {v : CV} {s : TS B} : ∀ {l : List MB} {x : BXt B l}, BXpack v.cc s.ms v.M l = some x → convB v s.er.ms (l.map MB.id) = some (erM (BXinst l x))
  | [], _, _ => rfl
  | m :: l, x, h => by
    replace h : (match m.pack v.cc s.ms v.M (getB s.ms m.id), BXpack v.cc s.ms v.M l with | some x, some r => some (x, r) | _, _ => none) = some x := h
    split at h
    · rename_i y r h1 h2
      cases h
      obtain ⟨ty, cs, cs', e1, e2, e3⟩ := MB.pack_ok h1
      have e4 : (fun j => (getB s.ms j).map TB.er) = getM s.er.ms := by funext j; exact (mem_er s j).symm
      rw [e4] at e3
      show (match getM s.er.ms m.id with
        | some (.box ty cells) => (match convCs v s.er.ms v.M m.id 0 cells, convB v s.er.ms (l.map MB.id) with | some r, some rest => some ((m.id, Blk.box ty r) :: rest) | _, _ => none)
        | _ => none) = some ((m.id, (m.inst y).er) :: erM (BXinst l r))
      rw [mem_er, e1, BXpack_ok h2, e2]
      show (match convCs v s.er.ms v.M m.id 0 (cs.map C1.er), some (erM (BXinst l r)) with | some r, some rest => some ((m.id, Blk.box ty r) :: rest) | _, _ => none) = _
      rw [convCs_cc, e3]
    · cases h
structure Sh where
  sl : List (Nat × SV)
  bx : List MB
def Vars (B : Tab) (sh : Sh) : Type := SLt B sh.sl × BXt B sh.bx
def memI (sh : Sh) (x : Vars B sh) : List (Nat × TB B) := BXinst sh.bx x.2 ++ (SLrows sh.sl x.1 ++ BXrows sh.bx x.2)
def someT (l : List (Nat × TB B)) : List (Nat × Option (TB B)) := l.map fun p => (p.1, some p.2)
def Sh.inst (sh : Sh) (n : Nat) (x : Vars B sh) : TS B := ⟨n, SLinst sh.sl x.1, someT (memI sh x)⟩
structure Hn where
  R : List (Nat × Nat)
  F : List Nat
  Z : List (Nat × Nat × Nat)
  N : List (Nat × Nat × NilTo)
  M : List (Nat × Nat × NilTo)
def cvOf (sh : Sh) (h : Hn) : CV := ⟨sh.sl.map (·.1), h.N, sh.bx.map MB.id, h.M, h.R, h.F, h.Z⟩
def subN (a b : List Nat) : Bool := a.all (memN b)
def idsOf (sh : Sh) (h : Hn) : List Nat := sh.bx.map MB.id ++ (h.R.map (·.2) ++ h.Z.map (·.1))
def packS (sh : Sh) (h : Hn) (s : TS B) : Option (Vars B sh) :=
  match SLpack (cvOf sh h).cc s.ms h.N s.es sh.sl, BXpack (cvOf sh h).cc s.ms h.M sh.bx with
  | some a, some b =>
    (match (convX (cvOf sh h) s.er).isSome, nodupN (idsOf sh h) && (nodupN ((memI sh (a, b)).map (·.1)) && (subN (idsOf sh h) ((memI sh (a, b)).map (·.1)))) with
    | true, true => some (a, b)
    | _, _ => none)
  | _, _ => none
theorem look_nodup {α : Type} : ∀ {l : List (Nat × α)} {i : Nat} {x : α}, (l.map (·.1)).Nodup → (i, x) ∈ l → look l i = some x
  | (k, y) :: l, i, x, hn, hm => by
    rw [List.map_cons, List.nodup_cons] at hn
    unfold look
    rcases List.mem_cons.1 hm with he | hm
    · cases he; rw [if_pos rfl]
    · rw [if_neg (fun e => hn.1 (by rw [← e]; exact List.mem_map.2 ⟨_, hm, rfl⟩))]
      exact look_nodup hn.2 hm
theorem look_out {α : Type} : ∀ {l : List (Nat × α)} {i : Nat}, i ∉ l.map (·.1) → look l i = none
  | [], _, _ => rfl
  | (k, y) :: l, i, h => by
    unfold look
    rw [if_neg (fun e => h (by rw [e]; exact List.mem_cons_self))]
    exact look_out fun h' => h (List.mem_cons_of_mem _ h')
theorem look_same {α : Type} {l r : List (Nat × α)} (hl : (l.map (·.1)).Nodup) (hr : (r.map (·.1)).Nodup) (h1 : ∀ p ∈ r, p ∈ l) (h2 : ∀ i ∈ l.map (·.1), i ∈ r.map (·.1)) : look l = look r := by
  funext i
  by_cases hi : i ∈ r.map (·.1)
  · obtain ⟨p, hp, rfl⟩ := List.mem_map.1 hi
    rw [look_nodup (x := p.2) hr hp, look_nodup (x := p.2) hl (h1 _ hp)]
  · rw [look_out hi, look_out fun h => hi (h2 i h)]
theorem convR_ids : ∀ {R : List (Nat × Nat)} {ms : List (Nat × Option Blk)} {rs : List (Nat × Blk)}, convR ms R = some rs → rs.map (·.1) = R.map (·.2)
  | [], _, _, h => by cases h; rfl
  | (j, i) :: R, ms, rs, h => by
    unfold convR at h
    split at h
    · split at h
      · rename_i rest hr; cases h; show i :: rest.map _ = i :: R.map _; rw [convR_ids hr]
      · cases h
    · split at h
      · rename_i rest hr; cases h; show i :: rest.map _ = i :: R.map _; rw [convR_ids hr]
      · cases h
    · cases h
theorem convZ_ids : ∀ (Z : List (Nat × Nat × Nat)), (convZ Z).map (·.1) = Z.map (·.1)
  | [] => rfl
  | (i, e, k) :: Z => by show i :: (convZ Z).map _ = i :: Z.map _; rw [convZ_ids Z]
theorem BXinst_ids : ∀ (l : List MB) (x : BXt B l), (BXinst l x).map (·.1) = l.map MB.id
  | [], _ => rfl
  | m :: l, x => by show m.id :: (BXinst l x.2).map _ = m.id :: l.map _; rw [BXinst_ids l x.2]
theorem erM_ids (l : List (Nat × TB B)) : (erM l).map (·.1) = l.map (·.1) := by unfold erM; rw [List.map_map]; rfl
theorem someT_er (l : List (Nat × TB B)) : (someT l).map (fun p => (p.1, p.2.map TB.er)) = someMs (erM l) := by
  induction l with
  | nil => rfl
  | cons p l ih => show (p.1, some p.2.er) :: (someT l).map _ = (p.1, some p.2.er) :: someMs (erM l); rw [ih]
theorem packS_ok {sh : Sh} {h : Hn} {s : TS B} {x : Vars B sh} (hp : packS sh h s = some x) : Fits s.er.st (sh.inst s.n x).er.st := by
  unfold packS at hp
  split at hp
  · rename_i a b ha hb
    split at hp
    · rename_i hc hk
      cases hp
      simp only [Bool.and_eq_true] at hk
      obtain ⟨k1, k2, k3⟩ := hk
      obtain ⟨L1, hL⟩ := Option.isSome_iff_exists.1 hc
      have hfit := convX_fits hL
      have e0 := BXpack_ok (v := cvOf sh h) hb
      unfold convX at hL
      split at hL
      · rename_i bs rs hbs hrs
        split at hL
        · cases hL
          have e1 : some bs = some (erM (BXinst sh.bx b)) := hbs.symm.trans e0
          have hR : rs.map (·.1) = h.R.map (·.2) := convR_ids hrs
          have hsrc : Src (cvOf sh h).cc s.ms (rs ++ convZ h.Z) := ⟨fun j i bl hm hg => List.mem_append.2 (.inl (convR_mem hrs hm (by rw [mem_er, hg]; rfl))), fun p hp => List.mem_append.2 (.inr hp)⟩
          have hin1 := SLpack_in hsrc ha
          have hin2 := BXpack_in hsrc hb
          have hm : look (bs ++ rs ++ convZ h.Z) = look (erM (memI sh (a, b))) := by
            refine look_same ?_ ?_ ?_ ?_
            · have := nodupN_iff k1
              rw [List.map_append, List.map_append, Option.some.inj e1, erM_ids, BXinst_ids, hR, convZ_ids, List.append_assoc]
              exact this
            · rw [erM_ids]; exact nodupN_iff k2
            · intro p hp
              obtain ⟨q, hq, rfl⟩ := List.mem_map.1 hp
              rcases List.mem_append.1 hq with hq | hq
              · refine List.mem_append.2 (.inl (List.mem_append.2 (.inl ?_)))
                rw [Option.some.inj e1]
                exact List.mem_map.2 ⟨q, hq, rfl⟩
              · have : (q.1, q.2.er) ∈ rs ++ convZ h.Z := by
                  rcases List.mem_append.1 hq with hq | hq
                  · exact hin1 q hq
                  · exact hin2 q hq
                rw [List.append_assoc]
                exact List.mem_append.2 (.inr this)
            · intro i hi
              rw [erM_ids]
              have h3 := List.all_eq_true.1 k3
              refine memN_iff (h3 i ?_)
              rw [List.map_append, List.map_append, Option.some.inj e1, erM_ids, BXinst_ids, hR, convZ_ids, List.append_assoc] at hi
              exact hi
          have hst : (LS.mk s.er.n (convG (cvOf sh h) s.er (cvOf sh h).G) (someMs (bs ++ rs ++ convZ (cvOf sh h).Z))).st = (sh.inst s.n (a, b)).er.st := by
            have e3 : convG (cvOf sh h) s.er (cvOf sh h).G = (SLinst sh.sl a).map fun p => (p.1, p.2.er) := SLpack_ok (v := cvOf sh h) ha
            have e4 : (sh.inst s.n (a, b)).er = ⟨s.n, (SLinst sh.sl a).map (fun p => (p.1, p.2.er)), someMs (erM (memI sh (a, b)))⟩ := by
              show LS.mk _ _ ((someT (memI sh (a, b))).map _) = _
              rw [someT_er]; rfl
            rw [e3, e4, mk_LS, mk_LS]
            unfold mkSt
            rw [show look (bs ++ rs ++ convZ (cvOf sh h).Z) = look (erM (memI sh (a, b))) from hm]
            rfl
          rw [hst] at hfit
          exact hfit
        · cases hL
      · cases hL
    · cases hp
  · cases hp
end Go.Proofs.YtcmpcbpdnaodmaaDoor
namespace Go.Proofs.YtcmpcbpdnaodmaaDoor
open Go.RowKit
set_option linter.unusedVariables false
variable {B : Tab} {P : Program}
theorem insM_perm (p : Nat × Blk) : ∀ l : List (Nat × Blk), (insM p l).Perm (p :: l)
  | [] => List.Perm.refl _
  | q :: l => by
    unfold insM
    split
    · exact List.Perm.refl _
    · exact ((insM_perm p l).cons q).trans (List.Perm.swap p q l)
theorem sortM_perm : ∀ l : List (Nat × Blk), (sortM l).Perm l
  | [] => List.Perm.refl _
  | p :: l => (insM_perm p (sortM l)).trans ((sortM_perm l).cons p)
structure Alike (m m2 : List (Nat × Blk)) : Prop where
  lk : look m = look m2
  mem : ∀ p, p ∈ m ↔ p ∈ m2
theorem Alike.of {l r : List (Nat × Blk)} (hl : (l.map (·.1)).Nodup) (hr : (r.map (·.1)).Nodup) (h1 : ∀ p ∈ r, p ∈ l) (h2 : ∀ i ∈ l.map (·.1), i ∈ r.map (·.1)) : Alike l r := by
  refine ⟨look_same hl hr h1 h2, fun p => ⟨fun hp => ?_, h1 p⟩⟩
  obtain ⟨q, hq, he⟩ := List.mem_map.1 (h2 p.1 (List.mem_map.2 ⟨p, hp, rfl⟩))
  have e1 := look_nodup (x := p.2) hl hp
  have e2 := look_nodup (x := q.2) hl (h1 q hq)
  rw [he, e1] at e2
  have : p = q := Prod.ext he.symm (Option.some.inj e2)
  rw [this]; exact hq
theorem Alike.trans {a b c : List (Nat × Blk)} (h : Alike a b) (h' : Alike b c) : Alike a c := ⟨h.lk.trans h'.lk, fun p => (h.mem p).trans (h'.mem p)⟩
theorem Alike.symm {a b : List (Nat × Blk)} (h : Alike a b) : Alike b a := ⟨h.lk.symm, fun p => (h.mem p).symm⟩
theorem Alike.perm {a b : List (Nat × Blk)} (ha : (a.map (·.1)).Nodup) (h : a.Perm b) : Alike a b :=
  Alike.of ha ((h.map _).nodup_iff.1 ha) (fun p hp => h.mem_iff.2 hp) fun i hi => (h.map _).mem_iff.1 hi
theorem mst_alike {m m2 : List (Nat × Blk)} (h : Alike m m2) : mst m = mst m2 := by
  unfold mst mkSt
  rw [h.lk]
theorem fnio_alike {f : FuncId} {args : List A} {m m2 m' m2' : List (Nat × Blk)} {r : A} (h : FnIO P f args m r m') (h1 : Alike m m2) (h2 : Alike m' m2') : FnIO P f args m2 r m2' := by
  unfold FnIO at h ⊢
  rw [← mst_alike h1, ← mst_alike h2]
  exact h
section
variable {ρ : Nat → Option Nat} {st : St} {m m2 : List (Nat × Blk)}
theorem le1_alike (h : Alike m m2) {x y : A} (hl : le1 ρ st m x y) : le1 ρ st m2 x y := by
  have e := h.lk
  unfold le1 at hl ⊢
  split at hl
  · exact hl
  · rw [← e]; exact hl
  · rw [← e]; exact hl
  · obtain ⟨e', k, xs, h1, h2, h3⟩ := hl
    exact ⟨e', k, xs, h1, h2, fun p hp => h3 p ((h.mem p).2 hp)⟩
  · rw [← e]; exact hl
  · rw [← e]; exact hl
  · rw [← e]; exact hl
  · rw [← e]; exact hl
  · exact hl
  · exact hl.elim
theorem leCells_alike (h : Alike m m2) : ∀ {x y : List A}, leCells ρ st m x y → leCells ρ st m2 x y
  | [], [], _ => trivial
  | x :: l, y :: r, hl => ⟨le1_alike h hl.1, leCells_alike h hl.2⟩
  | [], _ :: _, hl => hl.elim
  | _ :: _, [], hl => hl.elim
theorem le2_alike (h : Alike m m2) {x y : A} (hl : le2 ρ st m x y) : le2 ρ st m2 x y := by
  unfold le2 at hl ⊢
  split at hl
  · exact leCells_alike h hl
  · exact le1_alike h hl
theorem le3s_alike (h : Alike m m2) : ∀ {x y : List A}, le3s ρ st m x y → le3s ρ st m2 x y
  | [], [], _ => trivial
  | x :: l, y :: r, hl => ⟨le2_alike h hl.1, le3s_alike h hl.2⟩
  | [], _ :: _, hl => hl.elim
  | _ :: _, [], hl => hl.elim
theorem le3_alike (h : Alike m m2) {x y : A} (hl : le3 ρ st m x y) : le3 ρ st m2 x y := by
  unfold le3 at hl ⊢
  split at hl
  · exact le3s_alike h hl
  · exact le2_alike h hl
theorem leB_alike (h : Alike m m2) {x y : Blk} (hl : leB ρ st m x y) : leB ρ st m2 x y := by
  cases x <;> cases y <;> first | exact hl | exact ⟨hl.1, leCells_alike h hl.2⟩
theorem fitR_alike (h : Alike m m2) (hf : FitR ρ st [] m) : FitR ρ st [] m2 := by
  refine ⟨fun p hp => (by cases hp), fun p hp => ?_, fun p hp q hq => hf.inj p ((h.mem p).2 hp) q ((h.mem q).2 hq)⟩
  have h1 := hf.hms p ((h.mem p).2 hp)
  unfold leM at h1 ⊢
  split at h1
  · obtain ⟨b, hb, hl⟩ := h1
    exact ⟨b, hb, leB_alike h hl⟩
  · exact h1
end
theorem retIO_alike {fn : Func} {r : A} {m m2 : List (Nat × Blk)} {e : Exit} {st : St} (h : Alike m m2) (hr : retIO P fn r m e st) : retIO P fn r m2 e st := by
  unfold retIO at hr ⊢
  split at hr
  · obtain ⟨ρ, h1, x, h2, h3, h4⟩ := hr; exact ⟨ρ, h1, x, h2, le3_alike h h3, fitR_alike h h4⟩
  · obtain ⟨ρ, h1, x, h2, h3, h4⟩ := hr; exact ⟨ρ, h1, x, h2, le3_alike h h3, fitR_alike h h4⟩
  · exact hr.elim
def resV1 (P : Program) (s : TS B) : ResultVar → Option (TV B)
  | .tmp t => some (lkT s.es t)
  | .cell p ty => (match tinfo P ty with | some ti => peekV s (lkT s.es p) ti | none => none)
def resV (P : Program) (s : TS B) : List ResultVar → Option (List (V2 B))
  | [] => some []
  | r :: l => (match resV1 P s r, resV P s l with | some (.v x), some l => some (x :: l) | _, _ => none)
theorem resV1_er {s : TS B} {r : ResultVar} {x : TV B} (h : resV1 P s r = some x) : res1 P s.er.st r = some x.er := by
  cases r with
  | tmp t => cases h; exact congrArg some (lkT_er t s.es)
  | cell p ty =>
    replace h : (match tinfo P ty with | some ti => peekV s (lkT s.es p) ti | none => none) = some x := h
    split at h
    · rename_i ti ht
      show (match tinfo P ty with | some ti => peek s.er.st (s.er.st.env p) ti | none => none) = _
      rw [ht]
      show peek s.er.st (lkE s.er.es p) ti = _
      rw [show lkE s.er.es p = (lkT s.es p).er from lkT_er p s.es]
      exact peekV_er h
    · cases h
theorem resV_er {s : TS B} : ∀ {rs : List ResultVar} {l : List (V2 B)}, resV P s rs = some l → resL P s.er.st rs = some (l.map V2.er)
  | [], _, h => by cases h; rfl
  | r :: rs, l, h => by
    unfold resV at h
    split at h
    · rename_i x l' h1 h2
      cases h
      show (match res1 P s.er.st r, resL P s.er.st rs with | some x, some l => some (x :: l) | _, _ => none) = _
      rw [resV1_er h1, resV_er h2]; rfl
    · cases h
def tupA : List A → A
  | [x] => x
  | l => .tup l
theorem resA_eq {st : St} {rs : List ResultVar} {l : List A} (h : resL P st rs = some l) : resA P st rs = some (tupA l) := by
  unfold resA
  rw [h]
  match l with
  | [] => rfl
  | [x] => rfl
  | x :: y :: l => rfl
def RLt (B : Tab) : List SV → Type
  | [] => Unit
  | w :: l => SVt B w × RLt B l
def RLinst : (l : List SV) → RLt B l → List (V2 B)
  | [], _ => []
  | w :: l, x => w.inst x.1 :: RLinst l x.2
def RLrows : (l : List SV) → RLt B l → List (Nat × TB B)
  | [], _ => []
  | w :: l, x => w.rows x.1 ++ RLrows l x.2
def RLpack (v : CC) (ms : List (Nat × Option (TB B))) (sp : List (Nat × Nat × NilTo)) : Nat → (l : List SV) → List (V2 B) → Option (RLt B l)
  | _, [], [] => some ()
  | i, w :: l, a :: vs => (match w.pack v ms sp i a, RLpack v ms sp (i + 1) l vs with | some x, some r => some (x, r) | _, _ => none)
  | _, _, _ => none
theorem RLpack_in {v : CC} {ms : List (Nat × Option (TB B))} {M : List (Nat × Blk)} (hs : Src v ms M) {sp : List (Nat × Nat × NilTo)} : ∀ {l : List SV} {i : Nat} {vs : List (V2 B)} {x : RLt B l}, RLpack v ms sp i l vs = some x → RowsIn M (RLrows l x)
  | [], _, _, _, _ => fun p hp => by cases hp
  | _ :: _, _, [], _, h => by cases h
  | w :: l, i, a :: vs, x, h => by
    replace h : (match w.pack v ms sp i a, RLpack v ms sp (i + 1) l vs with | some x, some r => some (x, r) | _, _ => none) = some x := h
    split at h
    · rename_i y r h1 h2
      cases h
      exact (SV.pack_in hs h1).app (RLpack_in hs h2)
    · cases h
theorem convT_of {v : CV} {s : TS B} : ∀ {l : List SV} {i : Nat} {vs : List (V2 B)} {x : RLt B l}, RLpack v.cc s.ms v.N i l vs = some x → convT v s.er.ms i (vs.map V2.er) = some ((RLinst l x).map V2.er)
  | [], _, [], _, _ => rfl
  | [], _, _ :: _, _, h => by cases h
  | _ :: _, _, [], _, h => by cases h
  | w :: l, i, a :: vs, x, h => by
    replace h : (match w.pack v.cc s.ms v.N i a, RLpack v.cc s.ms v.N (i + 1) l vs with | some x, some r => some (x, r) | _, _ => none) = some x := h
    split at h
    · rename_i y r h1 h2
      cases h
      have e2 := SV.pack_ok h1
      have e3 : (fun j => (getB s.ms j).map TB.er) = getM s.er.ms := by funext j; exact (mem_er s j).symm
      rw [e3] at e2
      have ih := convT_of h2
      show convT v s.er.ms i (a.er :: vs.map V2.er) = some ((w.inst y).er :: (RLinst l r).map V2.er)
      cases a with
      | agg cs =>
        show (match convCs v s.er.ms v.N i 0 (cs.map C1.er), convT v s.er.ms (i + 1) (vs.map V2.er) with | some r, some rest => some (A.agg r :: rest) | _, _ => none) = _
        rw [convCs_cc, ih]
        have e6 : (match cvCs v.cc (getM s.er.ms) v.N i 0 (cs.map C1.er) with | some r => some (A.agg r) | none => none) = some (w.inst y).er := e2
        split at e6
        · rename_i r' hr'
          rw [hr', ← Option.some.inj e6]
        · cases e6
      | c c =>
        have e4 : cv2 v.cc (getM s.er.ms) v.N i c.er = cvL v.cc (getM s.er.ms) (nilTo v.N i 0) c.er := by cases c <;> rfl
        have e5 : convT v s.er.ms i (c.er :: vs.map V2.er) = (match convL v s.er.ms (nilTo v.N i 0) c.er, convT v s.er.ms (i + 1) (vs.map V2.er) with | some r, some rest => some (r :: rest) | _, _ => none) := by cases c <;> rfl
        show convT v s.er.ms i (c.er :: vs.map V2.er) = _
        rw [e5, convL_cc, ← e4, ih]
        rw [show cv2 v.cc (getM s.er.ms) v.N i c.er = some (w.inst y).er from e2]
    · cases h
structure Rh where
  rs : List SV
  bx : List MB
def Res (B : Tab) (rh : Rh) : Type := RLt B rh.rs × BXt B rh.bx
def resI (rh : Rh) (x : Res B rh) : A := tupA ((RLinst rh.rs x.1).map V2.er)
def resM (rh : Rh) (x : Res B rh) : List (Nat × TB B) := BXinst rh.bx x.2 ++ (RLrows rh.rs x.1 ++ BXrows rh.bx x.2)
def cvR (rh : Rh) (h : Hn) : CV := ⟨[], h.N, rh.bx.map MB.id, h.M, h.R, h.F, h.Z⟩
def idsR (rh : Rh) (h : Hn) : List Nat := rh.bx.map MB.id ++ (h.R.map (·.2) ++ h.Z.map (·.1))
def packR (P : Program) (f : FuncId) (rh : Rh) (h : Hn) (s : TS B) : Option (Res B rh) :=
  match resV P s (rvF P f) with
  | some l =>
    (match RLpack (cvR rh h).cc s.ms h.N 0 rh.rs l, BXpack (cvR rh h).cc s.ms h.M rh.bx with
    | some a, some b =>
      (match (retIOX P (cvR rh h) (rvF P f) s.er).isSome, nodupN (idsR rh h) && (nodupN ((resM rh (a, b)).map (·.1)) && (subN (idsR rh h) ((resM rh (a, b)).map (·.1)))) with
      | true, true => some (a, b)
      | _, _ => none)
    | _, _ => none)
  | none => none
theorem conv3_of {v : CV} {ms : List (Nat × Option Blk)} {l r : List A} (hl : ∀ x ∈ l, notTup x = true) (h : convT v ms 0 l = some r) : conv3 v ms (tupA l) = some (tupA r) := by
  match l, r, h with
  | [], r, h => cases h; rfl
  | x :: y :: l, r, h =>
    show (match convT v ms 0 (x :: y :: l) with | some r => some (A.tup r) | none => none) = _
    rw [h]
    have : 2 ≤ r.length := by
      have len : ∀ (l r : List A) (i : Nat), convT v ms i l = some r → r.length = l.length := fun l => by
        induction l with
        | nil => intro r i h; cases h; rfl
        | cons x l ih =>
          intro r i h
          unfold convT at h
          split at h
          · rename_i e; cases e
          · rename_i e; cases e
            split at h
            · rename_i h2; cases h; simp only [List.length_cons, ih _ _ h2]
            · cases h
          · rename_i e; cases e
            split at h
            · rename_i h2; cases h; simp only [List.length_cons, ih _ _ h2]
            · cases h
      rw [len _ _ _ h]; simp
    match r, this with
    | a :: b :: r, _ => rfl
  | [x], r, h =>
    have hx := hl x List.mem_cons_self
    cases x with
    | agg cs =>
      replace h : (match convCs v ms v.N 0 0 cs, convT v ms 1 [] with | some r, some rest => some (A.agg r :: rest) | _, _ => none) = some r := h
      show (match convCs v ms v.N 0 0 cs with | some r => some (A.agg r) | none => none) = _
      split at h
      · rename_i r1 r2 h1 h2
        cases h2
        cases h
        rw [h1]; rfl
      · cases h
    | tup cs => cases hx
    | t z =>
      replace h : (match convL v ms (nilTo v.N 0 0) (.t z), convT v ms 1 [] with | some r, some rest => some (r :: rest) | _, _ => none) = some r := h
      show convL v ms (nilTo v.N 0 0) (.t z) = _
      split at h
      · rename_i r1 r2 h1 h2
        cases h2
        cases h
        rw [h1]; rfl
      · cases h
    | ref z =>
      replace h : (match convL v ms (nilTo v.N 0 0) (.ref z), convT v ms 1 [] with | some r, some rest => some (r :: rest) | _, _ => none) = some r := h
      show convL v ms (nilTo v.N 0 0) (.ref z) = _
      split at h
      · rename_i r1 r2 h1 h2
        cases h2
        cases h
        rw [h1]; rfl
      · cases h
    | ptr z z' =>
      replace h : (match convL v ms (nilTo v.N 0 0) (.ptr z z'), convT v ms 1 [] with | some r, some rest => some (r :: rest) | _, _ => none) = some r := h
      show convL v ms (nilTo v.N 0 0) (.ptr z z') = _
      split at h
      · rename_i r1 r2 h1 h2
        cases h2
        cases h
        rw [h1]; rfl
      · cases h
    | rptr a b c =>
      replace h : (match convL v ms (nilTo v.N 0 0) (.rptr a b c), convT v ms 1 [] with | some r, some rest => some (r :: rest) | _, _ => none) = some r := h
      show convL v ms (nilTo v.N 0 0) (.rptr a b c) = _
      split at h
      · rename_i r1 r2 h1 h2
        cases h2
        cases h
        rw [h1]; rfl
      · cases h
    | ifc a b c =>
      replace h : (match convL v ms (nilTo v.N 0 0) (.ifc a b c), convT v ms 1 [] with | some r, some rest => some (r :: rest) | _, _ => none) = some r := h
      show convL v ms (nilTo v.N 0 0) (.ifc a b c) = _
      split at h
      · rename_i r1 r2 h1 h2
        cases h2
        cases h
        rw [h1]; rfl
      · cases h
    | ob z =>
      replace h : (match convL v ms (nilTo v.N 0 0) (.ob z), convT v ms 1 [] with | some r, some rest => some (r :: rest) | _, _ => none) = some r := h
      show convL v ms (nilTo v.N 0 0) (.ob z) = _
      split at h
      · rename_i r1 r2 h1 h2
        cases h2
        cases h
        rw [h1]; rfl
      · cases h
    | fel z =>
      replace h : (match convL v ms (nilTo v.N 0 0) (.fel z), convT v ms 1 [] with | some r, some rest => some (r :: rest) | _, _ => none) = some r := h
      show convL v ms (nilTo v.N 0 0) (.fel z) = _
      split at h
      · rename_i r1 r2 h1 h2
        cases h2
        cases h
        rw [h1]; rfl
      · cases h
    | dead =>
      replace h : (match convL v ms (nilTo v.N 0 0) .dead, convT v ms 1 [] with | some r, some rest => some (r :: rest) | _, _ => none) = some r := h
      show convL v ms (nilTo v.N 0 0) .dead = _
      split at h
      · rename_i r1 r2 h1 h2
        cases h2
        cases h
        rw [h1]; rfl
      · cases h
theorem v2_notTup (a : V2 B) : notTup a.er = true := by
  cases a with
  | agg cs => rfl
  | c c => cases c <;> rfl
theorem packR_ok {f : FuncId} {rh : Rh} {h : Hn} {s : TS B} {x : Res B rh} (hp : packR P f rh h s = some x) :
    ∃ m', retIOX P (cvR rh h) (rvF P f) s.er = some (resI rh x, m') ∧ Alike m' (erM (resM rh x)) := by
  unfold packR at hp
  split at hp
  · rename_i l hl
    split at hp
    · rename_i a b ha hb
      split at hp
      · rename_i hc hk
        cases hp
        simp only [Bool.and_eq_true] at hk
        obtain ⟨k1, k2, k3⟩ := hk
        obtain ⟨⟨r0, m0⟩, hL⟩ := Option.isSome_iff_exists.1 hc
        have e0 := BXpack_ok (v := cvR rh h) hb
        have eA := resA_eq (resV_er hl)
        have eT := conv3_of (v := cvR rh h) (ms := s.er.ms) (l := l.map V2.er) (fun x hx => by obtain ⟨y, _, rfl⟩ := List.mem_map.1 hx; exact v2_notTup y) (convT_of (v := cvR rh h) ha)
        have hL' := hL
        unfold retIOX at hL'
        split at hL'
        · rename_i y bs rs hy hbs hrs
          split at hL'
          · rename_i r' hk2 hc2
            cases hL'
            have ey : y = tupA (l.map V2.er) := Option.some.inj (hy.symm.trans eA)
            rw [ey] at hc2
            have er : r0 = resI rh (a, b) := Option.some.inj (hc2.symm.trans eT)
            refine ⟨_, by rw [hL, er], ?_⟩
            have e1 : some bs = some (erM (BXinst rh.bx b)) := hbs.symm.trans e0
            have hR : rs.map (·.1) = h.R.map (·.2) := convR_ids hrs
            have hsrc : Src (cvR rh h).cc s.ms (rs ++ convZ h.Z) := ⟨fun j i bl hm hg => List.mem_append.2 (.inl (convR_mem hrs hm (by rw [mem_er, hg]; rfl))), fun p hp => List.mem_append.2 (.inr hp)⟩
            have hin1 := RLpack_in hsrc ha
            have hin2 := BXpack_in hsrc hb
            have hnd : ((bs ++ rs ++ convZ h.Z).map (·.1)).Nodup := by
              have := nodupN_iff k1
              rw [List.map_append, List.map_append, Option.some.inj e1, erM_ids, BXinst_ids, hR, convZ_ids, List.append_assoc]
              exact this
            have h1 : Alike (bs ++ rs ++ convZ h.Z) (erM (resM rh (a, b))) := by
              refine Alike.of hnd ?_ ?_ ?_
              · rw [erM_ids]; exact nodupN_iff k2
              · intro p hp
                obtain ⟨q, hq, rfl⟩ := List.mem_map.1 hp
                rcases List.mem_append.1 hq with hq | hq
                · refine List.mem_append.2 (.inl (List.mem_append.2 (.inl ?_)))
                  rw [Option.some.inj e1]
                  exact List.mem_map.2 ⟨q, hq, rfl⟩
                · have : (q.1, q.2.er) ∈ rs ++ convZ h.Z := by
                    rcases List.mem_append.1 hq with hq | hq
                    · exact hin1 q hq
                    · exact hin2 q hq
                  rw [List.append_assoc]
                  exact List.mem_append.2 (.inr this)
              · intro i hi
                rw [erM_ids]
                have h3 := List.all_eq_true.1 k3
                refine memN_iff (h3 i ?_)
                rw [List.map_append, List.map_append, Option.some.inj e1, erM_ids, BXinst_ids, hR, convZ_ids, List.append_assoc] at hi
                exact hi
            exact (Alike.perm (((sortM_perm _).map _).nodup_iff.2 hnd) (sortM_perm (bs ++ rs ++ convZ h.Z))).trans h1
          · cases hL'
        · cases hL'
      · cases hp
    · cases hp
  · cases hp
end Go.Proofs.YtcmpcbpdnaodmaaDoor
namespace Go.Proofs.YtcmpcbpdnaodmaaDoor
open Go.RowKit
set_option linter.unusedVariables false
variable {B : Tab} {P : Program}
def evOp0 (P : Program) (dof : TypeId → Option D) (o : Oper) (s : TS B) : Act B :=
  match o.op with
  | .move x => moveV o s x
  | .assign x => moveV o s x
  | .pick c a b => pickO o s c a b
  | .alloc ty => allocV P o s ty
  | .box ty x => boxV o s ty x
  | .build t parts => buildV P o s t parts
  | .buildSlice t len parts => sliceV P dof o s t len parts
  | .load t a => loadV P o s t a
  | .store t a x => storeV P o s t a x
  | .nilCheck x => nilV o s x
  | .binOp op ty x y _ => binV P o s op ty x y
  | .unOp op _ x => unV o s op x
  | .convert src dst x => convV P o s src dst x
  | .fieldAddr t x f => faddrV P o s t x f
  | .field t x f => fldV P o s t x f
  | .indexAddr t x i => iaddrV P o s t x i
  | .index t x i => indexV P o s t x i
  | .extract x i => extV o s x i
  | .call c => (match c.callee, c.args.toList, c.argTypes.toList with
    | .builtin .len, [x], ty :: _ => lenV P o s ty x
    | .builtin .append, [x, y], [t, t'] => appV P o s t t' x y
    | _, _, _ => .no)
  | _ => .no
theorem evOp0_ok {dof : TypeId → Option D} {o : Oper} {s : TS B} : Sound P o s (evOp0 P dof o s) := by
  unfold evOp0
  split
  · rename_i x ho; exact moveV_ok (.inl ho)
  · rename_i x ho; exact moveV_ok (.inr ho)
  · rename_i c a b ho; exact pickO_ok ho
  · rename_i ty ho; exact allocV_ok ho
  · rename_i ty x ho; exact boxV_ok ho
  · rename_i t parts ho; exact buildV_ok ho
  · rename_i t len parts ho; exact sliceV_ok ho
  · rename_i t a ho; exact loadV_ok ho
  · rename_i t a x ho; exact storeV_ok ho
  · rename_i x ho; exact nilV_ok ho
  · rename_i op ty x y k ho; exact binV_ok ho
  · rename_i op ty x ho; exact unV_ok ho
  · rename_i src dst x ho; exact convV_ok ho
  · rename_i t x f ho; exact faddrV_ok ho
  · rename_i t x f ho; exact fldV_ok ho
  · rename_i t x i ho; exact iaddrV_ok ho
  · rename_i t x i ho; exact indexV_ok ho
  · rename_i x i ho; exact extV_ok ho
  · rename_i c ho
    split
    · rename_i x ty l hc ha ht; exact lenV_ok ho hc ha ht
    · rename_i x y t t' hc ha ht; exact appV_ok ho hc ha ht
    · trivial
  · trivial
section
variable (id : Nat) (d : D) (xs : List (E B d))
def C1.sub : C1 B → C1 B
  | .ref i => match Nat.beq i id with | true => .d (.l d xs) | false => .ref i
  | c => c
def V2.sub : V2 B → V2 B
  | .c x => .c (C1.sub id d xs x)
  | .agg cs => .agg (cs.map (C1.sub id d xs))
def TV.sub : TV B → TV B
  | .v x => .v (V2.sub id d xs x)
  | .tup cs => .tup (cs.map (V2.sub id d xs))
def TB.sub : TB B → TB B
  | .box ty cs => .box ty (cs.map (C1.sub id d xs))
  | b => b
abbrev slT : T := .sl (sz B d) (xs.map (enc B d))
theorem C1.sub_er (c : C1 B) : (C1.sub id d xs c).er = sub1 id (slT d xs) c.er := by
  cases c with
  | ref i =>
    show (match Nat.beq i id with | true => .d (.l d xs) | false => .ref i : C1 B).er = if i = id then A.t (slT d xs) else .ref i
    cases h : Nat.beq i id with
    | true => rw [if_pos (beq_t h)]; rfl
    | false => rw [if_neg (beq_f h)]; rfl
  | ptr i o =>
    show A.ptr i o = if i = id then A.ptr i o else .ptr i o
    split <;> rfl
  | _ => rfl
theorem C1.subs_er (cs : List (C1 B)) : (cs.map (C1.sub id d xs)).map C1.er = (cs.map C1.er).map (sub1 id (slT d xs)) := by
  rw [List.map_map, List.map_map]
  exact List.map_congr_left fun c _ => C1.sub_er id d xs c
theorem V2.sub_er (x : V2 B) : (V2.sub id d xs x).er = sub2 id (slT d xs) x.er := by
  cases x with
  | c x =>
    have h : sub2 id (slT d xs) x.er = sub1 id (slT d xs) x.er := by cases x <;> rfl
    exact (C1.sub_er id d xs x).trans h.symm
  | agg cs => exact congrArg A.agg (C1.subs_er id d xs cs)
theorem TV.sub_er (x : TV B) : (TV.sub id d xs x).er = sub3 id (slT d xs) x.er := by
  cases x with
  | v x =>
    have h : sub3 id (slT d xs) x.er = sub2 id (slT d xs) x.er := by
      cases x with
      | c x => cases x <;> rfl
      | agg cs => rfl
    exact (V2.sub_er id d xs x).trans h.symm
  | tup cs =>
    refine congrArg A.tup ?_
    show (cs.map (V2.sub id d xs)).map V2.er = (cs.map V2.er).map (sub2 id (slT d xs))
    rw [List.map_map, List.map_map]
    exact List.map_congr_left fun c _ => V2.sub_er id d xs c
theorem TB.sub_er (b : TB B) : (TB.sub id d xs b).er = Blk.sub id (slT d xs) b.er := by
  cases b with
  | box ty cs => exact congrArg (Blk.box ty) (C1.subs_er id d xs cs)
  | _ => rfl
def TS.frz1 (s : TS B) : TS B := ⟨s.n, s.es.map fun p => (p.1, TV.sub id d xs p.2), (id, none) :: s.ms.map fun p => (p.1, p.2.map (TB.sub id d xs))⟩
theorem frz1_er {id : Nat} {d : D} {xs : List (E B d)} {s : TS B} {e : TypeId} (h : getB s.ms id = some (.row e d xs)) : (s.frz1 id d xs).er = s.er.frz id := by
  unfold LS.frz
  rw [mem_er, h]
  show LS.mk _ _ _ = LS.mk _ _ _
  congr 1
  · show (s.es.map _).map _ = (s.es.map _).map _
    rw [List.map_map, List.map_map]
    refine List.map_congr_left fun p _ => ?_
    show (p.1, (TV.sub id d xs p.2).er) = (p.1, sub3 id _ p.2.er)
    rw [TV.sub_er]
  · show (id, (none : Option Blk)) :: (s.ms.map _).map _ = (id, none) :: (s.ms.map _).map _
    rw [List.map_map, List.map_map]
    congr 1
    refine List.map_congr_left fun p _ => ?_
    show (p.1, (p.2.map (TB.sub id d xs)).map TB.er) = (p.1, (p.2.map TB.er).map (Blk.sub id _))
    cases p.2 with
    | none => rfl
    | some b => show (p.1, some (TB.sub id d xs b).er) = _; rw [TB.sub_er]; rfl
end
def frzT : TS B → List Nat → Option (TS B)
  | s, [] => some s
  | s, id :: l => match getB s.ms id with | some (.row _ d xs) => frzT (s.frz1 id d xs) l | _ => none
theorem frzT_er : ∀ {l : List Nat} {s s1 : TS B}, frzT s l = some s1 → s1.er = s.er.frzs l
  | [], s, s1, h => by cases h; rfl
  | id :: l, s, s1, h => by
    unfold frzT at h
    split at h
    · rename_i e d xs hg
      show s1.er = (s.er.frz id).frzs l
      rw [← frz1_er hg]
      exact frzT_er h
    · cases h
def setT : List (Nat × TV B) → Nat → TV B → List (Nat × TV B)
  | [], _, _ => []
  | (i, x) :: l, t, y => match Nat.beq t i with | true => (i, y) :: l | false => (i, x) :: setT l t y
theorem setT_same (t : Nat) (y : TV B) : ∀ (l : List (Nat × TV B)), lkT l t = y → setT l t y = l
  | [], _ => rfl
  | (i, x) :: l, h => by
    replace h : (match Nat.beq t i with | true => x | false => lkT l t) = y := h
    show (match Nat.beq t i with | true => (i, y) :: l | false => (i, x) :: setT l t y) = _
    cases hb : Nat.beq t i with
    | true => rw [hb] at h; simp only at h ⊢; rw [h]
    | false => rw [hb] at h; simp only at h ⊢; rw [setT_same t y l h]
def TS.setS (s : TS B) (t : Nat) (y : TV B) : TS B := ⟨s.n, setT s.es t y, s.ms⟩
theorem setS_same {s : TS B} {t : Nat} {y : TV B} (h : lkT s.es t = y) : s.setS t y = s := by
  unfold TS.setS; rw [setT_same t y s.es h]
def gdst (ops : List Oper) (j : Nat) : Option Nat := match nthOp ops j with | some o => o.dst | none => none
abbrev Fps := List (List Nat × List Nat)
section
variable {ρ : Type}
def fzOf (dr : Bool) (fz : List Nat) : List Nat := match dr with | true => [] | false => fz
def fpM (m : Nat) (o : Oper) (st : St) : List Nat × List Nat := match m with | 2 => (fpOf o st ++ wrOf o st, []) | _ => (fpOf o st, wrOf o st)
def evStep (dr : Bool) (act : Oper → TS B → Act B) (fz : List Nat) (o : Oper) (s : TS B) (k : TS B → Nat → Option ρ) : Option ρ :=
  match frzT s (fzOf dr fz) with
  | some s1 => runA (act o s1) fun s' m => match !dr || (!Nat.beq m 3 && (keepsRows o s.er.st || !Nat.beq m 0)) with | true => k s' m | false => none
  | none => none
def evOps (dr : Bool) (hz : Nat → List Nat) (act : Nat → Oper → TS B → Act B) (ops : List Oper) : Nat → List Oper → TS B → Fps → (TS B → Fps → Option ρ) → Option ρ
  | _, [], s, acc, k => k s acc
  | i, o :: rest, s, acc, k =>
    match o.guard with
    | none => evStep dr (act i) (hz (i + 1)) o s fun s' m => evOps dr hz act ops (i + 1) rest s' (fpM m o s.er.st :: acc) k
    | some (j, want) =>
      match gdst ops j with
      | none => none
      | some d =>
        match lkT s.es d with
        | .v (.c (.d (.t (.v (.bool b))))) =>
          cond b
            (match want with
            | true => evStep dr (act i) (hz (i + 1)) o (s.setS d (.c (.v (.bool true)))) fun s' m => evOps dr hz act ops (i + 1) rest s' (fpM m o (s.setS d (.c (.v (.bool true)))).er.st :: acc) k
            | false => evOps dr hz act ops (i + 1) rest ((s.setS d (.c (.v (.bool true)))).put o.dst (.tup [])) (([], []) :: acc) k)
            (match want with
            | false => evStep dr (act i) (hz (i + 1)) o (s.setS d (.c (.v (.bool false)))) fun s' m => evOps dr hz act ops (i + 1) rest s' (fpM m o (s.setS d (.c (.v (.bool false)))).er.st :: acc) k
            | true => evOps dr hz act ops (i + 1) rest ((s.setS d (.c (.v (.bool false)))).put o.dst (.tup [])) (([], []) :: acc) k)
        | .tup [] => evOps dr hz act ops (i + 1) rest (s.put o.dst (.tup [])) (([], []) :: acc) k
        | _ => none
end
theorem guard_er {ops : List Oper} {s : TS B} {j d : Nat} (h : gdst ops j = some d) : guardL ops s.er.st j = (lkT s.es d).er := by
  unfold gdst at h
  unfold guardL
  split at h
  · rename_i o ho
    rw [ho]; simp only
    rw [h]
    exact lkT_er d s.es
  · cases h
theorem evStep_D {ρ : Type} {act : Oper → TS B → Act B} {fz : List Nat} {o : Oper} {s : TS B} {k : TS B → Nat → Option ρ} {r : ρ} (ha : ∀ s, Sound P o s (act o s)) (h : evStep true act fz o s k = some r) :
    ∃ s' m q obs, (keepsRows o s.er.st || looks o q) = true ∧ stepX P o q s.er = some (obs, s'.er) ∧ AllP obs ∧ fpM m o s.er.st = (fpQ o q s.er.st, wrQ o q s.er.st) ∧ k s' m = some r := by
  replace h : (runA (act o s) fun s' m => match !true || (!Nat.beq m 3 && (keepsRows o s.er.st || !Nat.beq m 0)) with | true => k s' m | false => none) = some r := h
  rcases runA_ok (ha s) h with ⟨s', m, q, obs, h1, h2, h3, h5, h4⟩ | ⟨s', _, h4⟩
  · split at h4
    · rename_i hk
      refine ⟨s', m, q, obs, ?_, h1, h2, ?_, h4⟩
      · simp only [Bool.not_true, Bool.false_or, Bool.and_eq_true, Bool.or_eq_true, Bool.not_eq_true'] at hk ⊢
        rcases hk.2 with hk | hk
        · exact .inl hk
        · exact .inr (h3 hk)
      · unfold fpM
        split
        · cases q with
          | look ns r => rfl
          | _ => cases h5
        · rename_i hm
          cases q with
          | look ns r => exact (hm (beq_t h5.symm)).elim
          | _ => rfl
    · cases h4
  · cases h4
theorem evStep_N {ρ : Type} {act : Oper → TS B → Act B} {fz : List Nat} {o : Oper} {s : TS B} {k : TS B → Nat → Option ρ} {r : ρ} (ha : ∀ s, Sound P o s (act o s)) (h : evStep false act fz o s k = some r) :
    ∃ s' m, (∀ K : St → Prop, K s'.er.st → Opk P o (s.er.st.frzs fz) K) ∧ k s' m = some r := by
  unfold evStep at h
  split at h
  · rename_i s1 hs1
    have e : s1.er.st = s.er.st.frzs fz := by rw [frzT_er hs1, frzs_st]; rfl
    rw [← e]
    rcases runA_ok (ha s1) h with ⟨s', m, q, obs, h1, h2, h3, h5, h4⟩ | ⟨s', hs', h4⟩
    · exact ⟨s', m, fun K hK => step_sound (stepX_ok h1 h2 K hK), h4⟩
    · exact ⟨s', 3, hs', h4⟩
  · cases h
theorem allP_app {l r : List Prop} (h1 : AllP l) (h2 : AllP r) : AllP (l ++ r) := by
  induction l with
  | nil => exact h2
  | cons p l ih => exact ⟨h1.1, ih h1.2⟩
theorem evOps_ok {ρ : Type} {hz : Nat → List Nat} {act : Nat → Oper → TS B → Act B} (ha : ∀ i o s, Sound P o s (act i o s)) {ops : List Oper} {k : TS B → Fps → Option ρ} {r : ρ} : ∀ {l : List Oper} {i : Nat} {s : TS B} {acc : Fps}, evOps true hz act ops i l s acc k = some r →
    ∃ qs obs s' fps, runX P true ops l qs s.er = some (obs, s'.er, fps) ∧ AllP obs ∧ k s' (fps.reverse ++ acc) = some r
  | [], i, s, acc, h => ⟨[], [], s, [], rfl, trivial, h⟩
  | o :: rest, i, s, acc, h => by
    have go : ∀ {s0 : TS B} {acc}, evStep true (act i) (hz (i + 1)) o s0 (fun s' m => evOps true hz act ops (i + 1) rest s' (fpM m o s0.er.st :: acc) k) = some r →
        ∃ q qs obs1 obs s1 s' fps, (keepsRows o s0.er.st || looks o q) = true ∧ stepX P o q s0.er = some (obs1, s1) ∧ AllP obs1 ∧ runX P true ops rest qs s1 = some (obs, s'.er, fps) ∧ AllP obs ∧ k s' (fps.reverse ++ ((fpQ o q s0.er.st, wrQ o q s0.er.st) :: acc)) = some r := fun {s0 acc} h => by
      obtain ⟨s1, m, q, obs1, h1, h2, h3, hf, h4⟩ := evStep_D (ha i o) h
      rw [hf] at h4
      obtain ⟨qs, obs, s', fps, h5, h6, h7⟩ := evOps_ok ha h4
      exact ⟨q, qs, obs1, obs, _, s', fps, h1, h2, h3, h5, h6, h7⟩
    unfold evOps at h
    split at h
    · rename_i hg
      obtain ⟨q, qs, obs1, obs, s1, s', fps, h1, h2, h3, h5, h6, h7⟩ := go h
      refine ⟨(none, [], q) :: qs, obs1 ++ obs, s', (fpQ o q s.er.st, wrQ o q s.er.st) :: fps, ?_, ?_, ?_⟩
      · unfold runX
        simp only [hg]
        rw [show (!true || (([] : List Nat).isEmpty && (keepsRows o s.er.st || looks o q))) = true from h1]
        show (match true, stepX P o q s.er with | true, some (obs, s') => (match runX P true ops rest qs s' with | some (obs', s'', fps) => some (obs ++ obs', s'', (fpQ o q s.er.st, wrQ o q s.er.st) :: fps) | none => none) | _, _ => none) = _
        rw [h2]; simp only
        rw [h5]
      · exact allP_app h3 h6
      · rw [List.reverse_cons, List.append_assoc]; exact h7
    · rename_i j want hg
      have skip : ∀ {A0 : A}, guardL ops s.er.st j = A0 → (∃ b, A0 = .t (.v (.bool b)) ∧ eqB b want = false) ∨ A0 = .tup [] →
          evOps true hz act ops (i + 1) rest (s.put o.dst (.tup [])) (([], []) :: acc) k = some r →
          ∃ qs obs s' fps, runX P true ops (o :: rest) qs s.er = some (obs, s'.er, fps) ∧ AllP obs ∧ k s' (fps.reverse ++ acc) = some r := fun {A0} hA hb h => by
        obtain ⟨qs, obs, s', fps, h5, h6, h7⟩ := evOps_ok ha h
        have h5' : runX P true ops rest qs (s.er.put o.dst (.tup [])) = some (obs, s'.er, fps) := by
          have := put_er s o.dst (.tup [])
          rw [show s.er.put o.dst (.tup []) = (s.put o.dst (.tup [])).er from this.symm]; exact h5
        refine ⟨(none, [], .no) :: qs, obs, s', ([], []) :: fps, ?_, h6, by rw [List.reverse_cons, List.append_assoc]; exact h7⟩
        unfold runX
        simp only [hg]
        rw [hA]
        rcases hb with ⟨b, rfl, hb⟩ | rfl
        · simp only [decV]
          rw [hb]; simp only
          rw [h5']; rfl
        · simp only
          rw [h5']
      have step : ∀ {b : Bool}, guardL ops s.er.st j = .t (.v (.bool b)) → eqB b want = true →
          evStep true (act i) (hz (i + 1)) o s (fun s' m => evOps true hz act ops (i + 1) rest s' (fpM m o s.er.st :: acc) k) = some r →
          ∃ qs obs s' fps, runX P true ops (o :: rest) qs s.er = some (obs, s'.er, fps) ∧ AllP obs ∧ k s' (fps.reverse ++ acc) = some r := fun {b} hA hb h => by
        obtain ⟨q, qs, obs1, obs, s1, s', fps, h1, h2, h3, h5, h6, h7⟩ := go h
        refine ⟨(none, [], q) :: qs, obs1 ++ obs, s', (fpQ o q s.er.st, wrQ o q s.er.st) :: fps, ?_, allP_app h3 h6, by rw [List.reverse_cons, List.append_assoc]; exact h7⟩
        unfold runX
        simp only [hg]
        rw [hA]
        simp only [decV]
        rw [hb]; simp only
        rw [show (!true || (([] : List Nat).isEmpty && (keepsRows o s.er.st || looks o q))) = true from h1]
        show (match true, stepX P o q s.er with | true, some (obs, s') => (match runX P true ops rest qs s' with | some (obs', s'', fps) => some (decOb none b ++ (obs ++ obs'), s'', (fpQ o q s.er.st, wrQ o q s.er.st) :: fps) | none => none) | _, _ => none) = _
        rw [h2]; simp only
        rw [h5]; rfl
      split at h
      · cases h
      · rename_i d hd
        have hgu := guard_er (s := s) hd
        split at h
        · rename_i b hl
          have hA : guardL ops s.er.st j = .t (.v (.bool b)) := by rw [hgu, hl]; rfl
          cases b with
          | true =>
            rw [setS_same hl] at h
            simp only [cond_true] at h
            cases want with
            | true => exact step hA rfl h
            | false => exact skip hA (.inl ⟨true, rfl, rfl⟩) h
          | false =>
            rw [setS_same hl] at h
            simp only [cond_false] at h
            cases want with
            | true => exact skip hA (.inl ⟨false, rfl, rfl⟩) h
            | false => exact step hA rfl h
        · rename_i hl
          exact skip (A0 := .tup []) (by rw [hgu, hl]; rfl) (.inr rfl) h
        · cases h
theorem guardOf_er {ops : Array Oper} {s : TS B} {j d : Nat} (h : gdst ops.toList j = some d) : guardOf ops s.er.st j = (lkT s.es d).er := by
  have h1 := guard_er (s := s) h
  unfold guardL at h1
  unfold guardOf
  rw [nthOp_eq, Array.getElem?_toList] at h1
  unfold gdst at h
  rw [nthOp_eq, Array.getElem?_toList] at h
  cases hj : ops[j]? with
  | none => rw [hj] at h; cases h
  | some oj =>
    rw [hj] at h1 h
    simp only [Option.bind_some]
    exact h1
theorem evOps_W {ρ : Type} {hz : Nat → List Nat} {act : Nat → Oper → TS B → Act B} (ha : ∀ i o s, Sound P o s (act i o s)) (ops : Array Oper) {k : TS B → Fps → Option ρ} {r : ρ} {K : St → Prop} (hK : ∀ s' f, k s' f = some r → K s'.er.st) : ∀ (l : List Oper) (i : Nat) (s : TS B) (acc : Fps), ops.toList.drop i = l →
    evOps false hz act ops.toList i l s acc k = some r → runW P ops (List.range' i l.length) s.er.st K
  | [], i, s, acc, hd, h => hK s acc h
  | o :: rest, i, s, acc, hd, h => by
    have hlt : i < ops.toList.length := by
      apply Nat.lt_of_not_le
      intro hle
      rw [List.drop_eq_nil_of_le hle] at hd; cases hd
    have hoi : ops[i]? = some o := by
      have := List.getElem_cons_drop hlt
      rw [hd] at this
      cases this
      rw [← Array.getElem?_toList]; simp
    have hd' : ops.toList.drop (i + 1) = rest := by
      have := List.getElem_cons_drop hlt
      rw [hd] at this
      injection this
    have go : ∀ {s0 : TS B}, evStep false (act i) (hz (i + 1)) o s0 (fun s' m => evOps false hz act ops.toList (i + 1) rest s' (fpM m o s0.er.st :: acc) k) = some r →
        ∃ ids, Opk P o (s0.er.st.frzs ids) fun st' => runW P ops (List.range' (i + 1) rest.length) st' K := fun {s0} h => by
      obtain ⟨s', m, h1, h2⟩ := evStep_N (ha i o) h
      exact ⟨_, h1 _ (evOps_W ha ops hK rest (i + 1) s' _ hd' h2)⟩
    have skip : evOps false hz act ops.toList (i + 1) rest (s.put o.dst (.tup [])) (([], []) :: acc) k = some r → runW P ops (List.range' (i + 1) rest.length) (s.er.st.put o.dst (.tup [])) K := fun h => by
      have := evOps_W ha ops hK rest (i + 1) _ _ hd' h
      rw [put_er, put_st] at this
      exact this
    simp only [List.length_cons, List.range'_succ, runW, hoi]
    unfold evOps at h
    split at h
    · rename_i hg
      simp only [hg]
      exact go h
    · rename_i j want hg
      simp only [hg]
      split at h
      · cases h
      · rename_i d hgd
        have hgu := guardOf_er (s := s) hgd
        split at h
        · rename_i b hl
          have hA : guardOf ops s.er.st j = .v (.bool b) := by rw [hgu, hl]; rfl
          refine .inl ⟨b, hA, ?_⟩
          cases b with
          | true =>
            rw [setS_same hl] at h
            simp only [cond_true] at h
            cases want with
            | true => exact ⟨fun _ => go h, fun hn => absurd rfl hn⟩
            | false => exact ⟨fun hn => (nomatch hn), fun _ => skip h⟩
          | false =>
            rw [setS_same hl] at h
            simp only [cond_false] at h
            cases want with
            | true => exact ⟨fun hn => (nomatch hn), fun _ => skip h⟩
            | false => exact ⟨fun _ => go h, fun hn => absurd rfl hn⟩
        · rename_i hl
          exact .inr ⟨by rw [hgu, hl]; rfl, skip h⟩
        · cases h
def evReg {ρ : Type} (dr : Bool) (hz : Nat → List Nat) (act : Nat → Oper → TS B → Act B) (ops : Array Oper) (s : TS B) (k : TS B → Option ρ) : Option ρ :=
  match frzT s (hz 0) with
  | none => none
  | some s =>
  match opsOk ops s.n with
  | true => evOps dr hz act ops.toList 0 ops.toList s [] fun s' fps => (match !dr || (textOk ops.toList && metOk ops.toList fps.reverse) with | true => k s' | false => none)
  | false => none
theorem evReg_ok {ρ : Type} (hmix : P.follows .mixedOrders = true) {id : Nat} {dr : Bool} {hz : Nat → List Nat} {act : Nat → Oper → TS B → Act B} (ha : ∀ i o s, Sound P o s (act i o s)) {ops : Array Oper} {s : TS B} {k : TS B → Option ρ} {r : ρ} {Q : Exit → St → Prop}
    (h : evReg dr hz act ops s k = some r) (hQ : ∀ s' : TS B, k s' = some r → Q .normal s'.er.st) : W P (.region id ops dr) s.er.st Q := by
  unfold evReg at h
  split at h
  · cases h
  rename_i s1 hs1
  refine W_frz (hz 0) ?_
  rw [← frzT_er hs1]
  clear hs1
  split at h
  · rename_i hok
    cases dr with
    | false =>
      refine W_region hok ?_
      rw [List.range_eq_range', ← Array.length_toList]
      exact evOps_W ha ops (fun s' f hk => hQ s' hk) ops.toList 0 s1 [] (by simp) h
    | true =>
      obtain ⟨qs, obs, s', fps, hr, ho, hk⟩ := evOps_ok ha h
      split at hk
      · rename_i hd
        simp only [Bool.not_true, Bool.false_or, Bool.and_eq_true, List.append_nil, List.reverse_reverse] at hd
        exact W_openT hmix hok hd.1 (runX_trail ops.toList ops.toList qs s1.er s'.er _ _ hr ho) hd.2 (hQ s' hk)
      · cases hk
  · cases h
end Go.Proofs.YtcmpcbpdnaodmaaDoor
namespace Go.Proofs.YtcmpcbpdnaodmaaDoor
open Go.RowKit
set_option linter.unusedVariables false
variable {B : Tab} {P : Program} {o : Oper} {s : TS B}
def okP (c : Prop) [Decidable c] : Option Unit := if c then some () else none
theorem okP_ok {c : Prop} [Decidable c] {y : Unit} (h : okP c = some y) : c := by
  unfold okP at h
  split at h
  · assumption
  · cases h
theorem quiet_sound {args : List A} {z : TV B} (ha : argsOf o s.er.st = args) (hf : args.all flat2 = true) (hz : (noRefs o s.er.st || scal3 z.er) = true) (hq : Quiet P o args z.er) : Sound P o s (.st (s.put o.dst z) false) := by
  refine sound_no (.quiet z.er) (obs := [Quiet P o args z.er]) ?_ ⟨hq, trivial⟩
  show (match (noRefs o s.er.st || scal3 z.er) && (argsOf o s.er.st).all flat2 with | true => some ([Quiet P o (argsOf o s.er.st) z.er], s.er.put o.dst z.er) | false => none) = _
  rw [hz, ha, hf, put_er]
  rfl
theorem makes_sound {args : List A} {d e k : Nat} {D : D} {ys : List (E B D)} (hd : o.dst = some d) (hu : usedB s.ms d = false) (hn : noRefs o s.er.st = true) (hm : makesRow o s.er.st = true) (ha : argsOf o s.er.st = args) (hf : args.all flat2 = true) (hk : sz B D = k)
    (hq : Makes P o args e k (ys.map (enc B D))) : Sound P o s (.st ((s.new d (.row e D ys)).put (some d) (.c (.ref d))) false) := by
  refine sound_no (.makes e k (ys.map (enc B D))) (obs := [Makes P o args e k (ys.map (enc B D))]) ?_ ⟨hq, trivial⟩
  show (match o.dst, noRefs o s.er.st && makesRow o s.er.st && (argsOf o s.er.st).all flat2 with
    | some d, true => (match usedM s.er.ms d with | false => some ([Makes P o (argsOf o s.er.st) e k (ys.map (enc B D))], (s.er.new d (.row e k (ys.map (enc B D)))).put (some d) (.ref d)) | true => none)
    | _, _ => none) = _
  rw [hd, hn, hm, ha, hf]
  show (match usedM s.er.ms d with | false => _ | true => none) = _
  rw [used_er, hu, ← hk]
  rfl
theorem moves_sound {args : List A} {i d id e : Nat} {D : D} {xs ys : List (E B D)} {b : TB B} {a : A} (hd : o.dst = some d) (hu : usedB s.ms d = false) (hi : ((opL o.op).map s.er.st.ev)[i]? = some (.ref id)) (hg : getB s.ms id = some b) (hm : movesRow o i = true) (ha : ((opL o.op).map s.er.st.ev).set i .dead = args)
    (hq : OwnMove P o i b.er args (.row e (sz B D) (ys.map (enc B D)))) : Sound P o s (.st (((s.del id).new d (.row e D ys)).put (some d) (.c (.ref d))) false) := by
  refine sound_no (.moves i (.row e (sz B D) (ys.map (enc B D)))) (obs := [OwnMove P o i b.er args (.row e (sz B D) (ys.map (enc B D)))]) ?_ ⟨hq, trivial⟩
  show (match o.dst, ((opL o.op).map s.er.st.ev)[i]? with
    | some d, some (.ref id) => (match getM s.er.ms id, usedM s.er.ms d, movesRow o i with
      | some b, false, true => some ([OwnMove P o i b (((opL o.op).map s.er.st.ev).set i .dead) (.row e (sz B D) (ys.map (enc B D)))], ((s.er.del id).new d (.row e (sz B D) (ys.map (enc B D)))).put (some d) (.ref d))
      | _, _, _ => none)
    | _, _ => none) = _
  rw [hd, hi, ha]
  show (match getM s.er.ms id, usedM s.er.ms d, movesRow o i with | some b, false, true => _ | _, _, _ => none) = _
  rw [mem_er, hg, used_er, hu, hm]
  rfl
theorem listV_arg {a : TV B} {d : D} {xs : List (E B d)} (h : listV s a = some ⟨d, xs⟩) : arg2 s.er.st a.er = .t (.sl (sz B d) (xs.map (enc B d))) := by
  unfold listV at h
  split at h
  · cases h; rfl
  · rename_i id
    split at h
    · rename_i e d' xs' hg
      cases h
      show (match getM s.er.ms id with | some (.row _ k xs) => A.t (.sl k xs) | _ => .ref id) = _
      rw [mem_er, hg]; rfl
    · cases h
  · cases h
theorem val_sound {op : BinOp} {ty : TypeId} {x y : Operand} {k : TypeId} {vx vy z : Value} (ho : o.op = .binOp op ty x y k) (hx : s.ev x = .c (.v vx)) (hy : s.ev y = .c (.v vy)) (h : binA P s.er.st op ty (.t (.v vx)) (.t (.v vy)) = some z) (hz : z.oneCell' = true) : Sound P o s (.st (s.put o.dst (.c (.v z))) false) := by
  refine sound_no (.val z) (obs := [binA P s.er.st op ty (.t (.v vx)) (.t (.v vy)) = some z]) ?_ ⟨h, trivial⟩
  show stepX0 P o (.val z) s.er = _
  unfold stepX0
  rw [ho]; simp only
  rw [ev_er, ev_er, hx, hy, hz]
  show some ([binA P s.er.st op ty (.t (.v vx)) (.t (.v vy)) = some z], s.er.put o.dst (.t (.v z))) = _
  rw [put_er]; rfl
def strV (o : Oper) (s : TS B) (op : BinOp) (a b : List UInt8) : Act B :=
  match op with
  | .eql => .st (s.put o.dst (.c (.v (.bool (decide (a = b)))))) false
  | .neq => .st (s.put o.dst (.c (.v (.bool (!decide (a = b)))))) false
  | .lss => .st (s.put o.dst (.c (.v (.bool (Op.bytesLess a b))))) false
  | .leq => .st (s.put o.dst (.c (.v (.bool (Op.bytesLess a b || decide (a = b)))))) false
  | .gtr => .st (s.put o.dst (.c (.v (.bool (!(Op.bytesLess a b || decide (a = b))))))) false
  | .geq => .st (s.put o.dst (.c (.v (.bool (!(Op.bytesLess a b)))))) false
  | .add => .bnd (okP (CatOb a b)) fun _ => .st (s.put o.dst (.c (.v (.string (mkS (a ++ b)))))) false
  | _ => .no
theorem strV_ok {op : BinOp} {ty : TypeId} {x y : Operand} {k : TypeId} {a b : List UInt8} (ho : o.op = .binOp op ty x y k) (hx : s.ev x = .c (.v (.string (mkS a)))) (hy : s.ev y = .c (.v (.string (mkS b)))) : Sound P o s (strV o s op a b) := by
  cases op with
  | eql => exact val_sound ho hx hy (str_eq_ob (P := P) ty a b) rfl
  | neq => exact val_sound ho hx hy (str_ne_ob (P := P) ty a b) rfl
  | lss => exact val_sound ho hx hy (str_lt_ob (P := P) ty a b) rfl
  | leq => exact val_sound ho hx hy (str_le_ob (P := P) ty a b) rfl
  | gtr => exact val_sound ho hx hy (str_gt_ob (P := P) ty a b) rfl
  | geq => exact val_sound ho hx hy (str_ge_ob (P := P) ty a b) rfl
  | add => intro u hu; exact val_sound ho hx hy (cat_ob (P := P) ty (okP_ok hu)) rfl
  | _ => trivial
def intV (o : Oper) (s : TS B) (op : BinOp) (k : IntKind) (a : Int) (k' : IntKind) (b : Int) : Act B :=
  match op with
  | .quo => (match eqK k' k with | true => .bnd (okP (b ≠ 0)) fun _ => .st (s.put o.dst (.c (.v (.int k (k.wrap (Int.tdiv a b)))))) false | false => .no)
  | .rem => (match eqK k' k with | true => .bnd (okP (b ≠ 0)) fun _ => .st (s.put o.dst (.c (.v (.int k (Int.tmod a b))))) false | false => .no)
  | .shl => .bnd (okP (0 ≤ b)) fun _ => .st (s.put o.dst (.c (.v (.int k (k.wrap (a * 2 ^ (min b.toNat k.bits))))))) false
  | .shr => .bnd (okP (0 ≤ b)) fun _ => .st (s.put o.dst (.c (.v (.int k (a.fdiv (2 ^ (min b.toNat k.bits))))))) false
  | _ => .no
theorem intV_ok {op : BinOp} {ty : TypeId} {x y : Operand} {q : TypeId} {k k' : IntKind} {a b : Int} (ho : o.op = .binOp op ty x y q) (hx : s.ev x = .c (.v (.int k a))) (hy : s.ev y = .c (.v (.int k' b))) : Sound P o s (intV o s op k a k' b) := by
  cases op with
  | quo =>
    show Sound P o s (match eqK k' k with | true => _ | false => _)
    split
    · rename_i h; have h := eqK_eq h; subst h
      intro u hu; exact val_sound ho hx hy (quo_ob (P := P) ty (okP_ok hu)) rfl
    · trivial
  | rem =>
    show Sound P o s (match eqK k' k with | true => _ | false => _)
    split
    · rename_i h; have h := eqK_eq h; subst h
      intro u hu; exact val_sound ho hx hy (rem_ob (P := P) ty (okP_ok hu)) rfl
    · trivial
  | shl => intro u hu; exact val_sound ho hx hy (shl_ob (P := P) ty (okP_ok hu)) rfl
  | shr => intro u hu; exact val_sound ho hx hy (shr_ob (P := P) ty (okP_ok hu)) rfl
  | _ => trivial
def valC : C1 B → Option Value
  | .d (.t (.v x)) => some x
  | _ => none
def valsC : List (C1 B) → Option (List Value)
  | [] => some []
  | c :: l => match valC c, valsC l with | some x, some r => some (x :: r) | _, _ => none
theorem valsC_er : ∀ {l : List (C1 B)} {vs : List Value}, valsC l = some vs → l.map C1.er = vs.map A.v
  | [], _, h => by cases h; rfl
  | c :: l, vs, h => by
    unfold valsC at h
    split at h
    · rename_i x r h1 h2
      cases h
      rw [List.map_cons, List.map_cons, valsC_er h2]
      congr 1
      unfold valC at h1
      split at h1
      · cases h1; rfl
      · cases h1
    · cases h
theorem arg2_vals (st : St) (vs : List Value) : arg2 st (.agg (vs.map A.v)) = .agg (vs.map A.v) := by
  show A.agg ((vs.map A.v).map (arg1 st)) = _
  rw [List.map_map]
  exact congrArg A.agg (List.map_congr_left fun v _ => rfl)
theorem flat_vals (vs : List Value) : flat2 (.agg (vs.map A.v)) = true := by
  show (vs.map A.v).all flat1 = true
  rw [List.all_map]
  exact List.all_eq_true.2 fun v _ => rfl
def eqsV (P : Program) (o : Oper) (s : TS B) (ne : Bool) (ty : TypeId) (xs ys : List (C1 B)) : Act B :=
  match valsC xs, valsC ys with
  | some vs, some ws => (match eqAll P ty vs ws with | true => .st (s.put o.dst (.c (.v (.bool (cond ne (!(eqL vs ws)) (eqL vs ws)))))) false | false => .no)
  | _, _ => .no
theorem eqsV_ok {ne : Bool} {ty : TypeId} {x y : Operand} {k : TypeId} {xs ys : List (C1 B)} (ho : o.op = .binOp (cond ne .neq .eql) ty x y k) (hx : s.ev x = .agg xs) (hy : s.ev y = .agg ys) : Sound P o s (eqsV P o s ne ty xs ys) := by
  unfold eqsV
  split
  · rename_i vs ws h1 h2
    split
    · rename_i h3
      refine quiet_sound (args := [.agg (vs.map A.v), .agg (ws.map A.v)]) ?_ ?_ ?_ (eqA_ob (hh := none) ⟨_, ho⟩ h3 rfl)
      · unfold argsOf
        rw [ho]
        show [arg2 s.er.st (s.er.st.ev x), arg2 s.er.st (s.er.st.ev y)] = _
        rw [ev_er, ev_er, hx, hy]
        show [arg2 s.er.st (.agg (xs.map C1.er)), arg2 s.er.st (.agg (ys.map C1.er))] = _
        rw [valsC_er h1, valsC_er h2, arg2_vals, arg2_vals]
      · simp only [List.all_cons, flat_vals, List.all_nil, Bool.and_self]
      · exact Bool.or_true _
    · trivial
  · trivial
def binN (P : Program) (o : Oper) (s : TS B) (op : BinOp) (ty : TypeId) (x y : Operand) : Act B :=
  match s.ev x, s.ev y with
  | .v (.c (.d (.t (.v (.string a))))), .v (.c (.d (.t (.v (.string b))))) => strV o s op a.data.toList b.data.toList
  | .v (.agg xs), .v (.agg ys) => (match op with | .eql => eqsV P o s false ty xs ys | .neq => eqsV P o s true ty xs ys | _ => .no)
  | .v (.c (.d (.t (.v (.int k a))))), .v (.c (.d (.t (.v (.int k' b))))) => (match op with
    | .quo | .rem | .shl | .shr => intV o s op k a k' b
    | _ => binV P o s op ty x y)
  | _, _ => binV P o s op ty x y
theorem binN_ok {op : BinOp} {ty : TypeId} {x y : Operand} {k : TypeId} (ho : o.op = .binOp op ty x y k) : Sound P o s (binN P o s op ty x y) := by
  unfold binN
  split
  · rename_i a b hx hy
    exact strV_ok ho hx hy
  · rename_i xs ys hx hy
    split
    · exact eqsV_ok (ne := false) ho hx hy
    · exact eqsV_ok (ne := true) ho hx hy
    · trivial
  · rename_i k1 a k2 b hx hy
    split
    · exact intV_ok ho hx hy
    · exact intV_ok ho hx hy
    · exact intV_ok ho hx hy
    · exact intV_ok ho hx hy
    · exact binV_ok ho
  · exact binV_ok ho
def bytesO (xs : List Int) : Option Unit := okP (BytesOb xs)
theorem bytesO_ok {xs : List Int} {y : Unit} (h : bytesO xs = some y) : BytesOb xs := okP_ok h
def convN (P : Program) (o : Oper) (s : TS B) (src dst : TypeId) (x : Operand) : Act B :=
  match P.underlying src, P.underlying dst with
  | some (.slice e), some .string => (match P.underlying e, listV s (s.ev x) with
    | some (.int .u8), some ⟨.int .u8, xs⟩ => .bnd (bytesO xs) fun _ => .st (s.put o.dst (.c (.v (.string (mkS (bytesS xs)))))) false
    | _, _ => .no)
  | _, _ => convV P o s src dst x
theorem convN_ok {src dst : TypeId} {x : Operand} (ho : o.op = .convert src dst x) : Sound P o s (convN P o s src dst x) := by
  have hL : opL o.op = [x] := by rw [ho]; rfl
  unfold convN
  split
  · rename_i e hs hd
    split
    · rename_i xs he hx
      intro u hu
      refine quiet_sound (args := [.t (.sl 1 (xs.map (enc B (.int .u8))))]) ?_ rfl (Bool.or_true _) (bytesS_ob ho hs he hd (enc B (.int .u8)) rfl (bytesO_ok hu))
      unfold argsOf
      rw [hL]
      show [arg2 s.er.st (s.er.st.ev x)] = _
      rw [ev_er, listV_arg hx]
      rfl
    · trivial
  · exact convV_ok ho
def optI (s : TS B) (n : Int) : Option Operand → Option (IntKind × Int)
  | none => some (.i64, n)
  | some x => (match s.ev x with | .v (.c (.d (.t (.v (.int k m))))) => some (k, m) | _ => none)
theorem optI_low {n : Int} {x : Option Operand} {k : IntKind} {a : Int} (h : optI s n x = some (k, a)) : (x = none → a = n) ∧ x.toList.map (fun y => s.er.st.ev y) = lowA k x a := by
  cases x with
  | none => cases h; exact ⟨fun _ => rfl, rfl⟩
  | some x =>
    refine ⟨fun h => (nomatch h), ?_⟩
    replace h : (match s.ev x with | .v (.c (.d (.t (.v (.int k m))))) => some (k, m) | _ => none) = some (k, a) := h
    split at h
    · rename_i k' m hx
      cases h
      show [s.er.st.ev x] = [aI k a]
      rw [ev_er, hx]; rfl
    · cases h
def low0 : Option Operand → Bool
  | none => true
  | some (.const (.int _ 0)) => true
  | _ => false
def cutV (P : Program) (o : Oper) (s : TS B) (t : TypeId) (x : Operand) (low high : Option Operand) : Act B :=
  match P.underlying t with
  | some .string => (match s.ev x with
    | .v (.c (.d (.t (.v (.string u))))) => (match optI s 0 low, optI s u.data.toList.length high with
      | some (_, a), some (_, b) => .bnd (okP (CutR a b u.data.toList.length)) fun _ => .st (s.put o.dst (.c (.v (.string (mkS (cutL u.data.toList a b)))))) false
      | _, _ => .no)
    | _ => .no)
  | some (.slice e) => (match tinfo P e, s.ev x with
    | some te, .v (.c (.d (.l d xs))) => (match optI s 0 low, optI s xs.length high, Nat.beq te.size (sz B d) with
      | some (_, a), some (_, b), true => .bnd (okP (CutR a b xs.length)) fun _ => .st (s.put o.dst (.c (.d (.l d (cutL xs a b))))) false
      | _, _, _ => .no)
    | some te, .v (.c (.ref id)) => (match getB s.ms id, o.dst with
      | some (.row e' d xs), some dst => (match optI s xs.length high, (Nat.beq e' e && Nat.beq te.size (sz B d)) && low0 low, usedB s.ms dst with
        | some (_, b), true, false => .bnd (okP (CutR 0 b xs.length)) fun _ => .st (((s.del id).new dst (.row e d (cutL xs 0 b))).put (some dst) (.c (.ref dst))) false
        | _, _, _ => .no)
      | _, _ => .no)
    | _, _ => .no)
  | _ => .no
theorem optI_refs {n : Int} {x : Option Operand} {k : IntKind} {a : Int} (h : optI s n x = some (k, a)) : x.toList.flatMap (fun y => refs2 (s.er.st.ev y)) = [] := by
  have := (optI_low h).2
  cases x with
  | none => rfl
  | some x =>
    have h1 : s.er.st.ev x = aI k a := (List.cons.inj this).1
    show refs2 (s.er.st.ev x) ++ [] = []
    rw [h1]; rfl
theorem optI_args {n : Int} {x : Option Operand} {k : IntKind} {a : Int} (h : optI s n x = some (k, a)) : x.toList.map (fun y => arg2 s.er.st (s.er.st.ev y)) = lowA k x a := by
  have := (optI_low h).2
  cases x with
  | none => rfl
  | some x =>
    have h1 : s.er.st.ev x = aI k a := (List.cons.inj this).1
    show [arg2 s.er.st (s.er.st.ev x)] = [aI k a]
    rw [h1]; rfl
theorem lowA_flat (k : IntKind) (x : Option Operand) (a : Int) : (lowA k x a).all flat2 = true := by cases x <;> rfl
theorem low0_ev {low : Option Operand} (h : low0 low = true) : ∃ k, low.toList.map (fun y => s.er.st.ev y) = lowA k low 0 := by
  cases low with
  | none => exact ⟨.i64, rfl⟩
  | some x =>
    unfold low0 at h
    split at h
    · rename_i e; cases e
    · rename_i k e
      cases e
      exact ⟨k, by show [s.er.st.ev (.const (.int k 0))] = [aI k 0]; rw [ev_er]; rfl⟩
    · cases h
theorem cutV_ok {t : TypeId} {x : Operand} {low high : Option Operand} (ho : o.op = .slice t x low high none) : Sound P o s (cutV P o s t x low high) := by
  have hL : opL o.op = x :: (low.toList ++ (high.toList ++ [])) := by rw [ho]; rfl
  have hargs : argsOf o s.er.st = arg2 s.er.st (s.er.st.ev x) :: (low.toList.map (fun y => arg2 s.er.st (s.er.st.ev y)) ++ high.toList.map (fun y => arg2 s.er.st (s.er.st.ev y))) := by
    unfold argsOf
    rw [hL, List.append_nil, List.map_cons, List.map_append]
  have hrefs : noRefs o s.er.st = (refs2 (s.er.st.ev x) ++ (low.toList.flatMap (fun y => refs2 (s.er.st.ev y)) ++ high.toList.flatMap (fun y => refs2 (s.er.st.ev y)))).isEmpty := by
    unfold noRefs
    rw [hL, List.append_nil, List.flatMap_cons, List.flatMap_append]
  unfold cutV
  split
  · rename_i ht
    split
    · rename_i u hx
      split
      · rename_i ka a kb b h1 h2
        intro y hy
        have hev : s.er.st.ev x = aS u.data.toList := by rw [ev_er, hx]; rfl
        refine quiet_sound (args := aS u.data.toList :: (lowA ka low a ++ lowA kb high b)) ?_ ?_ (Bool.or_true _) (cutS_ob ho ht (okP_ok hy) (optI_low h1).1 (optI_low h2).1)
        · rw [hargs, optI_args h1, optI_args h2, hev]; rfl
        · rw [List.all_cons, List.all_append, lowA_flat, lowA_flat]; rfl
      · trivial
    · trivial
  · rename_i e ht
    split
    · rename_i te d xs hte hx
      split
      · rename_i ka a kb b h1 h2 hk
        intro y hy
        have hev : s.er.st.ev x = .t (.sl (sz B d) (xs.map (enc B d))) := by rw [ev_er, hx]; rfl
        have hR : CutR a b ((xs.map (enc B d)).length : Int) := by rw [List.length_map]; exact okP_ok hy
        refine quiet_sound (args := .t (.sl (sz B d) (xs.map (enc B d))) :: (lowA ka low a ++ lowA kb high b)) ?_ ?_ ?_ ?_
        · rw [hargs, optI_args h1, optI_args h2, hev]; rfl
        · rw [List.all_cons, List.all_append, lowA_flat, lowA_flat]; rfl
        · rw [hrefs, optI_refs h1, optI_refs h2, hev]; rfl
        · have := cutL_ob (ka := ka) (kb := kb) ho ht hte (beq_t hk) hR (optI_low h1).1 (fun h => by rw [List.length_map]; exact (optI_low h2).1 h)
          rw [← cutL_map] at this
          exact this
      · trivial
    · rename_i te id hte hx
      split
      · rename_i e' d xs dst hg hdst
        split
        · rename_i kb b h2 hk hu
          simp only [Bool.and_eq_true] at hk
          obtain ⟨⟨he, hk⟩, h0⟩ := hk
          have he := beq_t he
          subst he
          intro y hy
          obtain ⟨ka, h1⟩ := low0_ev (s := s) h0
          have hev : s.er.st.ev x = .ref id := by rw [ev_er, hx]; rfl
          have hops : (opL o.op).map s.er.st.ev = A.ref id :: (lowA ka low 0 ++ lowA kb high b) := by
            rw [hL, List.append_nil, List.map_cons, List.map_append, hev]
            rw [show low.toList.map s.er.st.ev = lowA ka low 0 from h1, show high.toList.map s.er.st.ev = lowA kb high b from (optI_low h2).2]
          refine moves_sound (i := 0) (xs := xs) (a := .dead) (args := .dead :: (lowA ka low 0 ++ lowA kb high b)) hdst hu ?_ hg ?_ ?_ (cutown_ob ho ht hte (beq_t hk) (enc B d) (okP_ok hy) (optI_low h2).1)
          · rw [hops]; rfl
          · unfold movesRow; rw [ho]
          · rw [hops]; rfl
        · trivial
      · trivial
    · trivial
  · trivial
def zeroT (B : Tab) : (l : List D) → l.all leafD = true → Tup B.toTab0 l
  | [], _ => ()
  | .int _ :: l, h => ((0 : Int), zeroT B l h)
  | .bool :: l, h => (false, zeroT B l h)
  | .str :: l, h => (([] : List UInt8), zeroT B l h)
  | .sl d :: l, h => (([] : List (E B d)), zeroT B l h)
  | .nat _ :: _, h => nomatch h
  | .map k d :: l, h => (([] : E B (.map k d)), zeroT B l h)
def zeroD (B : Tab) : (d : D) → E B d
  | .int _ => (0 : Int)
  | .bool => false
  | .str => ([] : List UInt8)
  | .sl d => ([] : List (E B d))
  | .nat i => B.put i (zeroT B (B.lv i) (B.leaf i))
  | .map k d => ([] : E B (.map k d))
def sameO : Operand → Operand → Bool
  | .tmp a, .tmp b => Nat.beq a b
  | .const (.int k a), .const (.int k' b) => eqK k k' && eqI a b
  | _, _ => false
def makeV (P : Program) (dof : TypeId → Option D) (o : Oper) (s : TS B) (t : TypeId) (x y : Operand) : Act B :=
  match P.underlying t, o.dst with
  | some (.slice e), some dst => (match tinfo P e, dof e, s.ev x with
    | some te, some d, .v (.c (.d (.t (.v (.int k n))))) => (match sameO x y && (Nat.beq te.size (sz B d) && (Nat.blt 0 te.size && zeroL te.zero (enc B d (zeroD B d)))), usedB s.ms dst with
      | true, false => .bnd (okP (MakeOb te.bytes n)) fun _ => .st ((s.new dst (.row e d (List.replicate n.toNat (zeroD B d)))).put (some dst) (.c (.ref dst))) false
      | _, _ => .no)
    | _, _, _ => .no)
  | _, _ => .no
theorem sameO_ev {x y : Operand} (h : sameO x y = true) : s.er.st.ev x = s.er.st.ev y := by
  unfold sameO at h
  split at h
  · rw [beq_t h]
  · simp only [Bool.and_eq_true] at h; rw [eqK_eq h.1, eqI_eq h.2]
  · cases h
theorem makeV_ok {dof : TypeId → Option D} {t : TypeId} {x y : Operand} (ho : o.op = .makeSlice t x y) : Sound P o s (makeV P dof o s t x y) := by
  have hL : opL o.op = [x, y] := by rw [ho]; rfl
  unfold makeV
  split
  · rename_i e dst ht hd
    split
    · rename_i te d k n hte hdof hx
      split
      · rename_i hk hu
        simp only [Bool.and_eq_true] at hk
        obtain ⟨h1, h2, h3, h4⟩ := hk
        intro u hu'
        have hev : s.er.st.ev x = aI k n := by rw [ev_er, hx]; rfl
        have hev' : s.er.st.ev y = aI k n := by rw [← sameO_ev h1, hev]
        refine makes_sound (args := [aI k n, aI k n]) hd hu ?_ ?_ ?_ rfl (beq_t h2).symm (make_ob ho ht hte rfl h3 rfl (enc B d) (zeroD B d) h4 (okP_ok hu'))
        · unfold noRefs
          rw [hL]
          show (refs2 (s.er.st.ev x) ++ (refs2 (s.er.st.ev y) ++ [])).isEmpty = true
          rw [hev, hev']; rfl
        · unfold makesRow; rw [ho]
        · unfold argsOf
          rw [hL]
          show [arg2 s.er.st (s.er.st.ev x), arg2 s.er.st (s.er.st.ev y)] = _
          rw [hev, hev']; rfl
      · trivial
    · trivial
  · trivial
def minV (o : Oper) (s : TS B) (mx : Bool) (x y : Operand) : Act B :=
  match s.ev x, s.ev y with
  | .v (.c (.d (.t (.v (.int k a))))), .v (.c (.d (.t (.v (.int k' b))))) => (match eqK k' k with
    | true => (match mx with
      | false => .st (s.put o.dst (.c (.v (.int k (if b < a then b else a))))) false
      | true => .st (s.put o.dst (.c (.v (.int k (if a < b then b else a))))) false)
    | false => .no)
  | _, _ => .no
theorem minV_ok {mx : Bool} {c : Call} {x y : Operand} (ho : o.op = .call c) (hc : c.callee = .builtin (cond mx .max .min)) (hxy : c.args = #[x, y]) : Sound P o s (minV o s mx x y) := by
  have hL : opL o.op = [x, y] := by
    rw [ho]
    show (match c.callee with | .value f => [f] | .invoke r _ => [r] | .builtin _ => []) ++ c.args.toList = _
    rw [hc, hxy]; cases mx <;> rfl
  unfold minV
  split
  · rename_i k a k' b hx hy
    split
    · rename_i hk
      have hk := eqK_eq hk
      subst hk
      have ha : argsOf o s.er.st = [aI k' a, aI k' b] := by
        unfold argsOf
        rw [hL]
        show [arg2 s.er.st (s.er.st.ev x), arg2 s.er.st (s.er.st.ev y)] = _
        rw [ev_er, ev_er, hx, hy]; rfl
      split
      · exact quiet_sound ha rfl (Bool.or_true _) (min_ob ho hc hxy)
      · exact quiet_sound ha rfl (Bool.or_true _) (max_ob ho hc hxy)
    · trivial
  · trivial
theorem newo_sound {args : List A} {d : Nat} {k D : D} (hd : o.dst = some d) (hu : usedB s.ms d = false) (hn : (newsObj o && (noRefs o s.er.st && (argsOf o s.er.st).all flat2)) = true) (hq : NewObj P o (argsOf o s.er.st) (.map [])) :
    Sound P o s (.st ((s.new d (.map k D [])).put (some d) (.c (.ob d))) false) := by
  refine sound_no (.newo (.map [])) (obs := [NewObj P o (argsOf o s.er.st) (.map [])]) ?_ ⟨hq, trivial⟩
  show (match o.dst, newsObj o && (noRefs o s.er.st && (argsOf o s.er.st).all flat2) with
    | some d, true => (match usedM s.er.ms d with | false => some ([NewObj P o (argsOf o s.er.st) (.map [])], (s.er.new d (.obj (.map []))).put (some d) (.ob d)) | true => none)
    | _, _ => none) = _
  rw [hd, hn]
  show (match usedM s.er.ms d with | false => _ | true => none) = _
  rw [used_er, hu]
  rfl
def mkmapV (dof : TypeId → Option D) (o : Oper) (s : TS B) (t : TypeId) : Act B :=
  match o.dst, dof t with
  | some d, some (.map k D) => (match usedB s.ms d with | false => .st ((s.new d (.map k D [])).put (some d) (.c (.ob d))) false | true => .no)
  | _, _ => .no
theorem mkmapV_ok {dof : TypeId → Option D} {t : TypeId} (ho : o.op = .makeMap t none) : Sound P o s (mkmapV dof o s t) := by
  have hL : opL o.op = [] := by rw [ho]; rfl
  unfold mkmapV
  split
  · rename_i d k D hd ht
    split
    · rename_i hu
      have ha : argsOf o s.er.st = [] := by unfold argsOf; rw [hL]; rfl
      refine newo_sound (args := []) hd hu ?_ (by rw [ha]; exact makemap_ob ho)
      rw [ha]
      have h1 : newsObj o = true := by unfold newsObj; rw [ho]
      have h2 : noRefs o s.er.st = true := by unfold noRefs; rw [hL]; rfl
      rw [h1, h2]; rfl
    · trivial
  · trivial
def keyK (kd : TypeDesc) : D → Bool
  | .int .i64 => (match kd with | .int _ => true | _ => false)
  | .str => (match kd with | .string => true | _ => false)
  | _ => false
theorem keyK_ok {kd : TypeDesc} {k : D} (h : keyK kd k = true) (x : E B k) : isKeyB kd (keyV B k x) = true := by
  unfold keyK at h
  split at h
  · split at h
    · rfl
    · cases h
  · split at h
    · rfl
    · cases h
  · cases h
def eqE : (k : D) → E B k → E B k → Bool
  | .int _, a, b => eqZ a b
  | .str, a, b => eqS a b
  | _, _, _ => false
theorem eqE_ok {kd : TypeDesc} {k : D} (h : keyK kd k = true) (a b : E B k) : eqKey (keyV B k a) (keyV B k b) = eqE k a b := by
  unfold keyK at h
  split at h
  · rfl
  · rfl
  · cases h
theorem idxE_ok {kd : TypeDesc} {k d : D} (h : keyK kd k = true) (es : List (E B k × E B d)) (x : E B k) : idxV (mapV B k d es) (keyV B k x) = idxG (eqE k) es x := by
  unfold idxV mapV idxG
  rw [List.findIdx?_map]
  congr 1
  funext p
  exact eqE_ok h x p.1
def scalD : D → Bool
  | .int _ | .bool | .str => true
  | _ => false
def lookupV (P : Program) (o : Oper) (s : TS B) (mt : TypeId) (x y : Operand) (ok : Bool) : Act B :=
  match P.underlying mt, s.ev x with
  | some (.map kt et), .v (.c (.ob id)) => (match P.underlying kt, zeroOf P et, getB s.ms id with
    | some kd, some z, some (.map k d es) => (match s.ev y with
      | .v (.c (.d c)) => (match keyK kd k, leafM k c, scalD d && z.oneCell' with
        | true, some key, true => .cas (hasG (eqE k) es key)
          (.bnd (getG (eqE k) es key) fun v => .st ((s.new id (.map k d es)).put o.dst (match ok with | true => .tup [.c (.d (leafC d v)), .c (.v (.bool true))] | false => .c (.d (leafC d v)))) false)
          (.st ((s.new id (.map k d es)).put o.dst (match ok with | true => .tup [.c (.v z), .c (.v (.bool false))] | false => .c (.v z))) false)
        | _, _, _ => .no)
      | _ => .no)
    | _, _, _ => .no)
  | _, _ => .no
theorem mem_map_ok {kd : TypeDesc} {k d : D} (h : keyK kd k = true) (hl : leafD d = true) (es : List (E B k × E B d)) : ∀ p ∈ mapV B k d es, isKeyB kd p.1 = true ∧ p.2.length = 1 := by
  intro p hp
  obtain ⟨q, hq, rfl⟩ := List.mem_map.1 hp
  exact ⟨keyK_ok h q.1, encD_len d q.2 hl⟩
theorem scal_leaf {d : D} (h : scalD d = true) : leafD d = true := by cases d <;> first | rfl | cases h
theorem key_er {kd : TypeDesc} {k : D} {c : TC B} {key : E B k} (hk : keyK kd k = true) (h : leafM k c = some key) : c.er = .v (keyV B k key) := by
  unfold keyK at hk
  split at hk
  · exact (intM_ok h).symm
  · exact (strM_ok h).symm
  · cases hk
theorem sets_ob {args : List A} {id : Nat} {b b' : TB B} {r : TV B} {x : Operand} {rest : List Operand} (hL : opL o.op = x :: rest) (hx : s.ev x = .c (.ob id)) (hg : getB s.ms id = some b) {od : Od} (hb : b.er = .obj od) (hm : setsRow o = true) (ha : rest.map s.er.st.ev = args)
    (hq : OwnSet P o 0 b.er (.dead :: args) b'.er r.er) : Sound P o s (.st ((s.new id b').put o.dst r) false) := by
  refine sound_no (.sets 0 b'.er r.er) (obs := [OwnSet P o 0 b.er (.dead :: args) b'.er r.er]) ?_ ⟨hq, trivial⟩
  have hx' : s.er.st.ev x = .ob id := by rw [ev_er, hx]; rfl
  unfold stepX
  simp only [hL, List.map_cons, hx', List.getElem?_cons_zero, own1, mem_er, hg, Option.map_some, hb, hm, List.set_cons_zero, ha]
  rw [put_er, new_er]
theorem lookupV_ok {mt : TypeId} {x y : Operand} {ok : Bool} (ho : o.op = .lookup mt x y ok) : Sound P o s (lookupV P o s mt x y ok) := by
  have hL : opL o.op = [x, y] := by rw [ho]; rfl
  unfold lookupV
  split
  · rename_i kt et id hm hx
    split
    · rename_i kd z k d es hk hz hg
      split
      · rename_i c hy
        split
        · rename_i key hkk hc hs
          simp only [Bool.and_eq_true] at hs
          obtain ⟨hsd, hz1⟩ := hs
          have hld := scal_leaf hsd
          have hq := fun ok' (ho : o.op = .lookup mt x y ok') => lookup_ob ho hm hk hz hz1 (mem_map_ok hkk hld es) (keyK_ok hkk key)
          have hyr : [y].map s.er.st.ev = [.t (.v (keyV B k key))] := by
            show [s.er.st.ev y] = _
            rw [ev_er, hy]
            show [A.t c.er] = _
            rw [key_er hkk hc]
          have hset : setsRow o = true := by unfold setsRow; rw [ho]
          have hgv : getV (mapV B k d es) (keyV B k key) = (getG (eqE k) es key).map fun v => (leafC d v).er := by
            unfold getV getG
            rw [idxE_ok hkk]
            cases hi : idxG (eqE k) es key with
            | none => rfl
            | some i =>
              show (match (mapV B k d es)[i]? with | some (_, [t]) => some t | _ => none) = _
              unfold mapV
              rw [List.getElem?_map]
              cases hp : es[i]? with
              | none => simp [hp]
              | some p =>
                simp only [Option.map_some, Option.bind_some, hp]
                rw [leafC_er d p.2 hld]
          have hhas : hasG (eqE k) es key = (getG (eqE k) es key).isSome := by
            unfold hasG getG
            cases hi : idxG (eqE k) es key with
            | none => rfl
            | some i =>
              have := findIdx_lt hi
              rw [Option.bind_some, List.getElem?_eq_getElem this]; rfl
          refine ⟨fun _ v hv => ?_, fun hf => ?_⟩
          · rw [hv] at hgv
            refine sets_ob hL hx hg (od := .map (mapV B k d es)) rfl hset hyr ?_
            have := hq ok ho
            rw [hgv] at this
            cases ok <;> exact this
          · have hn : getG (eqE k) es key = none := by
              rw [hhas] at hf
              cases hg : getG (eqE k) es key with
              | none => rfl
              | some v => rw [hg] at hf; cases hf
            rw [hn] at hgv
            refine sets_ob hL hx hg (od := .map (mapV B k d es)) rfl hset hyr ?_
            have := hq ok ho
            rw [hgv] at this
            cases ok <;> exact this
        · trivial
      · trivial
    · trivial
  · trivial
def mapsetV (P : Program) (o : Oper) (s : TS B) (mt : TypeId) (x y u : Operand) : Act B :=
  match P.underlying mt, s.ev x with
  | some (.map kt et), .v (.c (.ob id)) => (match P.underlying kt, getB s.ms id with
    | some kd, some (.map k d es) => (match s.ev y, s.ev u with
      | .v (.c (.d c)), .v (.c (.d c')) => (match keyK kd k, leafM k c, leafM d c' with
        | true, some key, some v => .st ((s.new id (.map k d (setG (eqE k) es key v))).put o.dst .dead) false
        | _, _, _ => .no)
      | _, _ => .no)
    | _, _ => .no)
  | _, _ => .no
theorem mapsetV_ok {mt : TypeId} {x y u : Operand} (ho : o.op = .mapUpdate mt x y u) : Sound P o s (mapsetV P o s mt x y u) := by
  have hL : opL o.op = [x, y, u] := by rw [ho]; rfl
  unfold mapsetV
  split
  · rename_i kt et id hm hx
    split
    · rename_i kd k d es hk hg
      split
      · rename_i c c' hy hu
        split
        · rename_i key v hkk hc hv
          have hld := leafM_leaf hv
          have hyr : [y, u].map s.er.st.ev = [.t (.v (keyV B k key)), .t c'.er] := by
            show [s.er.st.ev y, s.er.st.ev u] = _
            rw [ev_er, ev_er, hy, hu]
            show [A.t c.er, A.t c'.er] = _
            rw [key_er hkk hc]
          have hset : setsRow o = true := by unfold setsRow; rw [ho]
          have hes : setV (mapV B k d es) (keyV B k key) c'.er = mapV B k d (setG (eqE k) es key v) := by
            have hp : (keyV B k key, [c'.er]) = (fun p : E B k × E B d => (keyV B k p.1, enc B d p.2)) (key, v) := by
              show _ = (keyV B k key, enc B d v)
              rw [leafM_ok hv]
            unfold setV setG
            rw [idxE_ok hkk]
            cases hi : idxG (eqE k) es key with
            | none =>
              show mapV B k d es ++ [(keyV B k key, [c'.er])] = (es ++ [(key, v)]).map _
              rw [List.map_append, hp]; rfl
            | some i =>
              show (mapV B k d es).set i (keyV B k key, [c'.er]) = (es.set i (key, v)).map _
              rw [List.map_set, hp]; rfl
          refine sets_ob (b' := .map k d (setG (eqE k) es key v)) hL hx hg (od := .map (mapV B k d es)) rfl hset hyr ?_
          have := mapset_ob (t := c'.er) ho hm hk (mem_map_ok hkk hld es) (keyK_ok hkk key)
          rw [hes] at this
          exact this
        · trivial
      · trivial
    · trivial
  · trivial
theorem arg2_norefs {st : St} : ∀ {a : A}, refs2 a = [] → arg2 st a = a := by
  have h1 : ∀ a : A, refs1 a = [] → arg1 st a = a := fun a h => by
    cases a with
    | ref id => cases h
    | _ => rfl
  intro a h
  cases a with
  | agg cs =>
    show A.agg (cs.map (arg1 st)) = A.agg cs
    congr 1
    replace h : cs.flatMap refs1 = [] := h
    rw [List.flatMap_eq_nil_iff] at h
    exact (List.map_congr_left fun c hc => h1 c (h c hc)).trans (List.map_id cs)
  | ref id => cases h
  | _ => rfl
theorem idxA_map (f : Operand → A) : ∀ (n : Nat) (l : List (Nat × Operand)), idxA n l (l.map fun p => f p.2) = l.map fun p => (p.1, f p.2)
  | n, [] => rfl
  | n, p :: l => by show (p.1, f p.2) :: idxA n l _ = _; rw [idxA_map f n l]; rfl
def litV (P : Program) (dof : TypeId → Option D) (o : Oper) (s : TS B) (t : TypeId) (len : Nat) (parts : Array (Nat × Operand)) : Act B :=
  match tinfo P t with
  | some ti => (match ti.elem with
    | some e => (match tinfo P e, dof e with
      | some te, some k => (match Nat.blt 0 te.size && (Nat.beq parts.size len && Nat.ble (len * te.size) 16777216), Nat.beq te.size (sz B k) && (argsOf o s.er.st).all flat2, partsV k te.size 0 (parts.toList.map fun p => (p.1, s.ev p.2)) with
        | true, true, some xs => .st (s.put o.dst (.c (.d (.l k xs)))) false
        | _, _, _ => .no)
      | _, _ => .no)
    | none => .no)
  | _ => .no
theorem litV_ok {dof : TypeId → Option D} {t : TypeId} {len : Nat} {parts : Array (Nat × Operand)} (ho : o.op = .buildSlice t len parts) : Sound P o s (litV P dof o s t len parts) := by
  have hL : opL o.op = parts.toList.map (·.2) := by rw [ho]; rfl
  unfold litV
  split
  · rename_i ti ht
    split
    · rename_i e he
      split
      · rename_i te k hte hk
        split
        · rename_i xs hb hsz hp
          simp only [Bool.and_eq_true] at hb hsz
          obtain ⟨h0, hlen, hsmall⟩ := hb
          obtain ⟨e1, e2⟩ := partsV_er hp
          have e3 : ((parts.toList.map fun p => (p.1, s.ev p.2)).map erP) = parts.toList.map fun p => (p.1, s.er.st.ev p.2) := by
            rw [List.map_map]
            exact List.map_congr_left fun p _ => by
              show (p.1, (s.ev p.2).er) = _
              rw [ev_er]
          rw [e3] at e1 e2
          rw [List.flatMap_map] at e2
          have hnr : ∀ p ∈ parts.toList, refs2 (s.er.st.ev p.2) = [] := List.flatMap_eq_nil_iff.1 e2
          have ha : argsOf o s.er.st = parts.toList.map fun p => s.er.st.ev p.2 := by
            unfold argsOf
            rw [hL, List.map_map]
            exact List.map_congr_left fun p hp => arg2_norefs (hnr p hp)
          have hn : noRefs o s.er.st = true := by
            unfold noRefs
            rw [hL, List.flatMap_map]
            rw [List.flatMap_eq_nil_iff.2 hnr]; rfl
          refine quiet_sound (args := parts.toList.map fun p => s.er.st.ev p.2) ha (by rw [← ha]; exact hsz.2) (by rw [hn]; rfl) ?_
          exact makes_quiet (build_makes ho ht he hte h0 hlen hsmall (beq_t hsz.1) (by simp) (by rw [idxA_map (fun x => s.er.st.ev x), ← beq_t hsz.1]; exact e1))
        · trivial
      · trivial
    · trivial
  · trivial
def evOpM (P : Program) (dof : TypeId → Option D) (m : Nat) (o : Oper) (s : TS B) : Act B :=
  match m, o.op with
  | 2, .buildSlice t len parts => litV P dof o s t len parts
  | _, _ => .no
theorem evOpM_ok {dof : TypeId → Option D} {m : Nat} : Sound P o s (evOpM P dof m o s) := by
  unfold evOpM
  split
  · rename_i t len parts ho; exact litV_ok ho
  · trivial
def evOp1 (P : Program) (dof : TypeId → Option D) (o : Oper) (s : TS B) : Act B :=
  match o.op with
  | .binOp op ty x y _ => binN P o s op ty x y
  | .convert src dst x => convN P o s src dst x
  | .slice t x low high none => cutV P o s t x low high
  | .makeSlice t x y => makeV P dof o s t x y
  | .makeMap t none => mkmapV dof o s t
  | .lookup t x y ok => lookupV P o s t x y ok
  | .mapUpdate t x y u => mapsetV P o s t x y u
  | .call c => (match c.callee, c.args with
    | .builtin .min, ⟨[x, y]⟩ => minV o s false x y
    | .builtin .max, ⟨[x, y]⟩ => minV o s true x y
    | _, _ => evOp0 P dof o s)
  | _ => evOp0 P dof o s
theorem evOp1_ok {dof : TypeId → Option D} : Sound P o s (evOp1 P dof o s) := by
  unfold evOp1
  split
  · rename_i op ty x y k ho; exact binN_ok ho
  · rename_i src dst x ho; exact convN_ok ho
  · rename_i t x low high ho; exact cutV_ok ho
  · rename_i t x y ho; exact makeV_ok ho
  · rename_i t ho; exact mkmapV_ok ho
  · rename_i t x y ok ho; exact lookupV_ok ho
  · rename_i t x y u ho; exact mapsetV_ok ho
  · rename_i c ho
    split
    · rename_i x y hc ha; exact minV_ok (mx := false) ho hc ha
    · rename_i x y hc ha; exact minV_ok (mx := true) ho hc ha
    · exact evOp0_ok
  · exact evOp0_ok
end Go.Proofs.YtcmpcbpdnaodmaaDoor
