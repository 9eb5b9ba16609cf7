/- Parts of the proof. -/
import Derived.Test.YtblikpgdepjhdaaHbXC
import Derived.Test.YtblikpgdepjhdaaHbAxTab
import Derived.Deep.Slices
import Derived.ChangeArms
import Derived.SizedLaws
namespace Go.Proofs.Ytblikpgdepjhdaa
open Go.RowKit
set_option linter.unusedVariables false
section
variable (P : Program) (ty : TypeId) (k : IntKind) (a b : Int) (s t : ByteArray) (p q : Bool)
end
section
variable (ρ : Nat → Option Nat) (st : St) (ms : List (Nat × Blk))
end
theorem leM_some {ρ : Nat → Option Nat} {st : St} {ms : List (Nat × Blk)} {i j : Nat} {b' b : Blk} (h : ρ i = some j) (hb : st.mem j = some b) (hl : leB ρ st ms b b') : leM ρ st ms (i, b') := by
  unfold leM; rw [h]; exact ⟨b, hb, hl⟩
theorem leM_none {ρ : Nat → Option Nat} {st : St} {ms : List (Nat × Blk)} {i : Nat} {e k : Nat} (h : ρ i = none) (h0 : 0 < k) : leM ρ st ms (i, .row e k []) := by
  unfold leM; rw [h]; exact ⟨e, k, rfl, h0⟩
def distinctO : List (Option Nat) → Bool
  | [] => true
  | none :: l => distinctO l
  | some x :: l => !(l.contains (some x)) && distinctO l
theorem distinctO_get : ∀ (l : List (Option Nat)), distinctO l = true → ∀ (i j x : Nat), l[i]? = some (some x) → l[j]? = some (some x) → i = j
  | [], _, i, j, x, h1, _ => by simp at h1
  | none :: l, h, i, j, x, h1, h2 => by
    cases i with
    | zero => simp at h1
    | succ i => cases j with
      | zero => simp at h2
      | succ j => simp at h1 h2; rw [distinctO_get l h i j x h1 h2]
  | some y :: l, h, i, j, x, h1, h2 => by
    simp only [distinctO, Bool.and_eq_true, Bool.not_eq_true', List.contains_eq_mem, decide_eq_false_iff_not] at h
    cases i with
    | zero =>
      simp at h1
      subst h1
      cases j with
      | zero => rfl
      | succ j => simp at h2; exact absurd (List.mem_of_getElem? h2) h.1
    | succ i => cases j with
      | zero =>
        simp at h2
        subst h2
        simp at h1
        exact absurd (List.mem_of_getElem? h1) h.1
      | succ j => simp at h1 h2; rw [distinctO_get l h.2 i j x h1 h2]
theorem FitOk.fit {st : St} {es : List (Nat × A)} {ms : List (Nat × Blk)} {n : Nat} (hn : n = st.n) (hf : FitOk st es ms) : Fits st (mkSt n es ms) := by subst hn; exact fits (srcId_small st) hf
theorem FitOk.all {st : St} {es : List (Nat × A)} {ms : List (Nat × Blk)} {n : Nat} (hn : n = st.n) (hes : ∀ p ∈ es, leA (srcId st) st ms (st.env p.1) p.2) (hms : ∀ p ∈ ms, leM (srcId st) st ms p) (ids : List Nat) (hids : ms.map (·.1) = ids) (L : List (Option Nat)) (hL : ids.map (srcId st) = L) (hd : distinctO L = true) : Fits st (mkSt n es ms) := by
  refine FitOk.fit hn ⟨hes, hms, fun p hp q hq j h1 h2 => ?_⟩
  obtain ⟨i, hi, rfl⟩ := List.getElem_of_mem hp
  obtain ⟨i', hi', rfl⟩ := List.getElem_of_mem hq
  have e1 : L[i]? = some (some j) := by rw [← hL, ← hids]; simp [hi, h1]
  have e2 : L[i']? = some (some j) := by rw [← hL, ← hids]; simp [hi', h2]
  have := distinctO_get L hd i i' j e1 e2
  subst this
  rfl
theorem all_nil {α : Type} {p : α → Prop} : ∀ x ∈ ([] : List α), p x := fun x hx => by cases hx
theorem all_cons {α : Type} {p : α → Prop} {x : α} {l : List α} (h : p x) (hl : ∀ y ∈ l, p y) : ∀ y ∈ x :: l, p y := fun y hy => by
  rcases List.mem_cons.1 hy with rfl | hy
  · exact h
  · exact hl y hy
section
variable (n : Nat) (es : List (Nat × A)) (ms : List (Nat × Blk)) (args : List A) (t : Nat)
end
section
variable (n : Nat) (args : List A) (m : List (Nat × Blk)) (t : Nat)
end
end Go.Proofs.Ytblikpgdepjhdaa
namespace Go.Proofs.Ytblikpgdepjhdaa
open Go.ChangeShapes Go.WideShapes Go.Deep Go.RowKit
set_option linter.unusedVariables false
inductive ShO where
  | int (k : IntKind)
  | bool
  | str
  | sl (es : List ShO)
def shFs (P : Program) (sh : TypeId → Option (List ShO)) : Nat → List Field → Option (List ShO)
  | _, [] => some []
  | off, f :: rest => match sh f.type with
    | some es => if f.offset = off ∧ P.cellsOf f.type = es.length then (shFs P sh (off + es.length) rest).map (es ++ ·) else none
    | none => none
def shOf (P : Program) : Nat → TypeId → Option (List ShO)
  | 0, _ => none
  | n + 1, t => match P.underlying t with
    | some (.int k) => some [.int k]
    | some .bool => some [.bool]
    | some .string => some [.str]
    | some (.slice e) => match shOf P n e with
      | some es => if P.cellsOf e = es.length ∧ 0 < es.length ∧ 0 < P.bytesOf e then some [.sl es] else none
      | none => none
    | some (.struct fs) => match shFs P (shOf P n) 0 fs.toList with
      | some es => if P.cellsOf t = es.length then some es else none
      | none => none
    | _ => none
inductive TypedT : ShO → T → Prop
  | int (k : IntKind) (n : Int) (h : (Lit.int k n).wf = true) : TypedT (.int k) (.v (.int k n))
  | bool (b : Bool) : TypedT .bool (.v (.bool b))
  | str (s : ByteArray) (h : s.size ≤ reachBytes) : TypedT .str (.v (.string s))
  | sl (es : List ShO) (xs : List (List T)) (h : xs.length ≤ reachBytes) (hl : ∀ i (hi : i < xs.length), (xs[i]).length = es.length)
      (ht : ∀ i (hi : i < xs.length) j (hj : j < (xs[i]).length) (hj' : j < es.length), TypedT (es[j]) (xs[i][j])) : TypedT (.sl es) (.sl es.length xs)
theorem weights_all {H : Type} {P : Program} {e : TypeId} : ∀ {l : List (DataW H)} {d : DataW H}, d ∈ l → ∀ n ∈ d.weights P e, n ∈ DataW.weightsAll P e l
  | x :: l, d, h, n, hn => by
    simp only [DataW.weightsAll, List.mem_append]
    rcases List.mem_cons.1 h with rfl | h
    · exact .inl hn
    · exact .inr (weights_all h n hn)
structure TypedL (es : List ShO) (ts : List T) : Prop where
  len : ts.length = es.length
  at_ : ∀ j (hj : j < ts.length) (hj' : j < es.length), TypedT (es[j]) (ts[j])
def RepL (w : World) (ts : List T) (cs : List Value) : Prop := ts.length = cs.length ∧ ∀ j (hj : j < ts.length) (hj' : j < cs.length), RepT w (fun _ => False) (ts[j]) (cs[j])
theorem typed_one {e : ShO} {t : T} (h : TypedT e t) : TypedL [e] [t] := ⟨rfl, fun j hj hj' => by
  have : j = 0 := by simp at hj; omega
  subst this; exact h⟩
theorem rep_one {w : World} {t : T} {v : Value} (h : RepT w (fun _ => False) t v) : RepL w [t] [v] := ⟨rfl, fun j hj hj' => by
  have : j = 0 := by simp at hj; omega
  subst this; exact h⟩
theorem typed_append {es fs : List ShO} {ts us : List T} (h : TypedL es ts) (k : TypedL fs us) : TypedL (es ++ fs) (ts ++ us) := by
  refine ⟨by simp [h.len, k.len], fun j hj hj' => ?_⟩
  by_cases hlt : j < ts.length
  · rw [List.getElem_append_left hlt, List.getElem_append_left (by rw [← h.len]; exact hlt)]
    exact h.at_ j hlt _
  · have hl := h.len
    rw [List.getElem_append_right (by omega), List.getElem_append_right (by omega)]
    have e : j - ts.length = j - es.length := by omega
    simp only [← e]
    exact k.at_ (j - ts.length) (by simp at hj; omega) _
theorem repL_append {w : World} {ts us : List T} {cs ds : List Value} (h : RepL w ts cs) (k : RepL w us ds) : RepL w (ts ++ us) (cs ++ ds) := by
  refine ⟨by simp [h.1, k.1], fun j hj hj' => ?_⟩
  have hl := h.1
  by_cases hlt : j < ts.length
  · rw [List.getElem_append_left hlt, List.getElem_append_left (by omega)]
    exact h.2 j hlt _
  · rw [List.getElem_append_right (by omega), List.getElem_append_right (by omega)]
    have e : j - ts.length = j - cs.length := by omega
    simp only [← e]
    exact k.2 (j - ts.length) (by simp at hj; omega) _
theorem spotNone {w : World} {a : Addr} {v : Value} (h : w.cell? (a.add 0) = some v) : a = ⟨a.block, a.off, none⟩ := by
  obtain ⟨b, o, sp⟩ := a
  cases sp with
  | none => rfl
  | some k =>
    exfalso
    unfold Addr.add at h
    rw [if_pos rfl] at h
    unfold World.cell? at h
    split at h <;> simp_all
theorem addNone {w : World} {b o n : Nat} {v : Value} (h : w.cell? ((⟨b, o, none⟩ : Addr).add n) = some v) : b < w.heap.size ∧ w.cell? ⟨b, o + n, none⟩ = some v := by
  have hadd : (⟨b, o, none⟩ : Addr).add n = ⟨b, o + n, none⟩ := by unfold Addr.add; split <;> simp_all
  rw [hadd] at h
  exact ⟨World.block_lt_of_cell? w ⟨b, o + n, none⟩ h, h⟩
section
variable {H : Type} {enc : TypeId × Value → H} {P : Program} {w : World}
theorem open_fs {sh : TypeId → Option (List ShO)} {n : Nat} (cs : List Value) (ih : ∀ t es cs x, sh t = some es → DataW.trod enc P w 0 (fun _ => true) true n t cs = some x → cs.length = P.cellsOf t → (∀ q ∈ x.1.weights P t, q ≤ reachBytes) → ∃ ts, TypedL es ts ∧ RepL w ts cs) :
    ∀ (l : List Field) (off : Nat) (es : List ShO), shFs P sh off l = some es → off + es.length ≤ cs.length → (∀ f ∈ l, ∃ x, DataW.trod enc P w 0 (fun _ => true) true n f.type ((cs.drop f.offset).take (P.cellsOf f.type)) = some x ∧ ∀ q ∈ x.1.weights P f.type, q ≤ reachBytes) →
      ∃ ts, TypedL es ts ∧ RepL w ts ((cs.drop off).take es.length)
  | [], off, es, h, hle, _ => by
    simp only [shFs, Option.some.injEq] at h
    subst h
    exact ⟨[], ⟨rfl, fun j hj => by simp at hj⟩, by simp [RepL]⟩
  | f :: rest, off, es, h, hle, hx => by
    simp only [shFs] at h
    split at h
    · rename_i e1 he1
      split at h
      · rename_i hc
        obtain ⟨rfl, hcl⟩ := hc
        obtain ⟨e2, h2, rfl⟩ := Option.map_eq_some_iff.1 h
        simp only [List.length_append] at hle
        obtain ⟨x, hx1, hx2⟩ := hx f (by simp)
        obtain ⟨t1, ht1, hr1⟩ := ih _ _ _ _ he1 hx1 (by simp; omega) hx2
        obtain ⟨t2, ht2, hr2⟩ := open_fs cs ih rest _ e2 h2 (by omega) (fun g hg => hx g (by simp [hg]))
        refine ⟨t1 ++ t2, typed_append ht1 ht2, ?_⟩
        rw [hcl] at hr1
        have : (cs.drop f.offset).take (e1 ++ e2).length = (cs.drop f.offset).take e1.length ++ (cs.drop (f.offset + e1.length)).take e2.length := by
          rw [List.length_append, List.take_add, List.drop_drop]
        rw [this]
        exact repL_append hr1 hr2
      · cases h
    · cases h
theorem open_ty : ∀ (n fuel : Nat) (t : TypeId) (es : List ShO) (cs : List Value) (x : DataW H × List MemPlace), shOf P n t = some es → DataW.trod enc P w 0 (fun _ => true) true fuel t cs = some x → cs.length = P.cellsOf t → (∀ q ∈ x.1.weights P t, q ≤ reachBytes) → ∃ ts, TypedL es ts ∧ RepL w ts cs
  | 0, fuel, t, es, cs, x, h, _, _, _ => by cases h
  | n + 1, fuel, t, es, cs, x, h, hx, hcs, hq => by
    simp only [shOf] at h
    split at h
    · rename_i k ht
      cases h
      obtain ⟨z, rfl, _, hw⟩ := DataW.trod_int ht hx
      exact ⟨_, typed_one (.int k z hw), rep_one (.v _ rfl)⟩
    · rename_i ht
      cases h
      obtain ⟨b, rfl, _⟩ := DataW.trod_bool ht hx
      exact ⟨_, typed_one (.bool b), rep_one (.v _ rfl)⟩
    · rename_i ht
      cases h
      obtain ⟨s, rfl, ex, hs⟩ := DataW.trod_string ht hx
      have hs2 : s.data.toList.length ≤ reachBytes := hq _ (by rw [ex]; simp [DataW.weights])
      exact ⟨_, typed_one (.str s (by simpa using hs2)), rep_one (.v _ rfl)⟩
    · rename_i e ht
      split at h
      · rename_i fs hfs
        split at h
        · rename_i hc
          cases h
          rcases open_slice ht hx with ⟨rfl, _⟩ | ⟨a, len, cap, m, n', D, Pl, rfl, _, hl, hm, hmm, ex, hi⟩
          · refine ⟨_, typed_one (.sl fs [] (Nat.zero_le _) (fun i hi => by simp at hi) (fun i hi => by simp at hi)), rep_one (.nil _ _ _ (Nat.zero_le _))⟩
          · simp only [if_true] at hmm
            subst hmm
            have hlen : len ≤ reachBytes := by
              have := hq (len * P.bytesOf e + (m - len) * P.bytesOf e) (by rw [ex]; simp [DataW.weights, ht, Nat.add_mul])
              have h1 : len * 1 ≤ len * P.bytesOf e := Nat.mul_le_mul (Nat.le_refl _) hc.2.2
              omega
            have hD : ∀ i, i < m → ∀ q ∈ (D i).weights P e, q ≤ reachBytes := fun i hil q hqq => hq q (by
              rw [ex]
              simp only [DataW.weights, ht, List.mem_cons, List.mem_append]
              refine .inr ?_
              by_cases hlt : i < len
              · exact .inl (weights_all (List.mem_map.2 ⟨i, List.mem_range.2 hlt, rfl⟩) q hqq)
              · exact .inr (weights_all (List.mem_map.2 ⟨i - len, List.mem_range.2 (by omega), by rw [show len + (i - len) = i by omega]⟩) q hqq))
            have hel : ∀ i, i < len → ∃ ts cs', TypedL fs ts ∧ RepL w ts cs' ∧ cs'.length = fs.length ∧ ∀ j, j < fs.length → w.cell? ((a.add (i * fs.length)).add j) = cs'[j]? := fun i hil => by
              obtain ⟨cs', h1, h2⟩ := hi i (by omega)
              obtain ⟨_, h3, h4⟩ := World.cells?_some h1
              obtain ⟨ts, h5, h6⟩ := open_ty n n' e fs cs' _ hfs h2 h3 (hD i (by omega))
              rw [hc.1] at h3 h4
              exact ⟨ts, cs', h5, h6, h3, h4⟩
            by_cases h0 : len = 0
            · subst h0
              exact ⟨_, typed_one (.sl fs [] (Nat.zero_le _) (fun i hi => by simp at hi) (fun i hi => by simp at hi)), rep_one (.nil _ _ _ hm)⟩
            · have hsp : a = ⟨a.block, a.off, none⟩ := by
                obtain ⟨ts, cs', _, _, h3, h4⟩ := hel 0 (by omega)
                have := h4 0 hc.2.1
                rw [List.getElem?_eq_getElem (by omega), Nat.zero_mul] at this
                rw [Go.Deep.add_add] at this
                exact spotNone this
              obtain ⟨b, o, sp⟩ := a
              simp only [Addr.mk.injEq, true_and] at hsp
              subst hsp
              have hel2 : ∀ i : Nat, ∃ (ts : List T) (c : Nat → Value), i < len → TypedL fs ts ∧ b < w.heap.size ∧ (∀ j, j < fs.length → w.cell? ⟨b, o + (i * fs.length + j), none⟩ = some (c j)) ∧ ∀ j (hj : j < ts.length), RepT w (fun _ => False) (ts[j]) (c j) := fun i => by
                by_cases hil : i < len
                · obtain ⟨ts, cs', h1, h2, h3, h4⟩ := hel i hil
                  refine ⟨ts, fun j => cs'.getD j undef, fun _ => ⟨h1, ?_, fun j hj => ?_, fun j hj => ?_⟩⟩
                  · have := h4 0 hc.2.1
                    rw [List.getElem?_eq_getElem (by omega), Go.Deep.add_add] at this
                    exact (addNone this).1
                  · have := h4 j hj
                    rw [List.getElem?_eq_getElem (by omega), Go.Deep.add_add] at this
                    rw [(addNone this).2]
                    simp [List.getD, List.getElem?_eq_getElem (show j < cs'.length by omega)]
                  · have := h2.2 j hj (by have := h2.1; omega)
                    simpa [List.getD, List.getElem?_eq_getElem (show j < cs'.length by have := h2.1; omega)] using this
                · exact ⟨[], fun _ => undef, fun h => absurd h hil⟩
              have hex := Classical.axiomOfChoice hel2
              obtain ⟨f, hf⟩ := hex
              have hex2 := Classical.axiomOfChoice hf
              obtain ⟨c, hc2⟩ := hex2
              have hxl : ((List.range len).map f).length = len := by simp
              have hxi : ∀ i (hi : i < ((List.range len).map f).length), ((List.range len).map f)[i] = f i := fun i hi => by simp
              refine ⟨_, typed_one (.sl fs ((List.range len).map f) (by rw [hxl]; omega) (fun i hi => by rw [hxi]; exact (hc2 i (by omega)).1.len) (fun i hi j hj hj' => ?_)), rep_one ?_⟩
              · simp only [hxi] at hj ⊢
                exact (hc2 i (by omega)).1.at_ j hj hj'
              · have hr := RepT.sl (w := w) (M := fun _ => False) fs.length ((List.range len).map f) b o m c (hc2 0 (by omega)).2.1 (fun h => h) (by rw [hxl]; exact hl) hm (fun i hi => by rw [hxi]; exact (hc2 i (by omega)).1.len) (fun i hi j hj => (hc2 i (by omega)).2.2.1 j hj) (fun i hi j hj => by
                  simp only [hxi] at hj ⊢
                  exact (hc2 i (by omega)).2.2.2 j hj)
                rw [hxl] at hr
                exact hr
        · cases h
      · cases h
    · rename_i fs ht
      split at h
      · rename_i es' hes
        split at h
        · rename_i hc
          cases h
          obtain ⟨xs, n', rfl, ex, hl, hxl, hf⟩ := DataW.trod_struct ht hx
          obtain ⟨ts, h1, h2⟩ := open_fs (enc := enc) (n := n') cs (fun t es cs x h1 h2 h3 h4 => open_ty n n' t es cs x h1 h2 h3 h4) fs.toList 0 es hes (by omega) (fun f hfm => by
            obtain ⟨i, hi, rfl⟩ := List.getElem_of_mem hfm
            have := hf i fs.toList[i] (by simp at hi; simp [hi])
            rw [List.getElem?_eq_getElem (by simp at hi; omega)] at this
            have hxi : i < xs.length := by simp at hi; omega
            refine ⟨_, this, fun q hqq => hq q ?_⟩
            rw [ex]
            simp only [DataW.weights, ht]
            exact DataW.weights_mem_each (j := i) (by rw [List.getElem?_map, List.getElem?_eq_getElem hi]; rfl) (by rw [List.getElem?_map, List.getElem?_eq_getElem hxi]; rfl) q hqq)
          refine ⟨ts, h1, ?_⟩
          rw [List.drop_zero, List.take_of_length_le (by omega)] at h2
          exact h2
        · cases h
      · cases h
    · cases h
def argA (P : Program) (t : TypeId) (ts : List T) : A := if isRowB (P.underlying t) then .agg (ts.map .t) else (match ts with | [x] => .t x | _ => .dead)
theorem open_arg {t : TypeId} {v : Value} {d : DataW H} {p : List MemPlace} {r : Reach} {b0 : Nat} {es : List ShO} (hsh : shOf P 20 t = some es) (hct : P.cellsOf t = es.length) (ok : Value.okWide P w r b0 t v) (h : DataW.Trod enc P w 0 (fun _ => true) true t v d p) (hq : ∀ q ∈ d.weights P t, q ≤ reachBytes) : ∃ ts, TypedL es ts ∧ RepF w (fun _ => False) (argA P t ts) v := by
  obtain ⟨fuel, hf⟩ := h
  have scal : isRowB (P.underlying t) = false → v.cells = #[v] → es.length = 1 → P.cellsOf t = 1 → ∃ ts, TypedL es ts ∧ RepF w (fun _ => False) (argA P t ts) v := fun h1 h2 h3 h4 => by
    rw [h2] at hf
    obtain ⟨ts, h5, h6⟩ := open_ty 20 fuel t es _ _ hsh hf (by simp [h4]) hq
    have : ts.length = 1 := by rw [h5.len, h3]
    obtain ⟨x, rfl⟩ := List.length_eq_one_iff.1 this
    refine ⟨[x], h5, ?_⟩
    unfold argA
    rw [h1]
    exact .t _ _ (h6.2 0 (by simp) (by simp))
  have hsh' := hsh
  simp only [shOf] at hsh'
  split at hsh'
  · rename_i k ht
    cases hsh'
    obtain ⟨n, rfl⟩ := okWide_int ht ok
    exact scal (by rw [ht]; rfl) rfl rfl hct
  · rename_i ht
    cases hsh'
    obtain ⟨n, rfl⟩ := okWide_bool ht ok
    exact scal (by rw [ht]; rfl) rfl rfl hct
  · rename_i ht
    cases hsh'
    obtain ⟨n, rfl⟩ := okWide_string ht ok
    exact scal (by rw [ht]; rfl) rfl rfl hct
  · rename_i e ht
    obtain ⟨a, l, c, rfl⟩ := okWide_slice ht ok
    split at hsh'
    · split at hsh'
      · cases hsh'; exact scal (by rw [ht]; rfl) rfl rfl hct
      · cases hsh'
    · cases hsh'
  · rename_i fs ht
    obtain ⟨cs, rfl, hsz⟩ := okWide_struct ht ok
    obtain ⟨ts, h5, h6⟩ := open_ty 20 fuel t es _ _ hsh hf (by simpa [Value.cells] using hsz) hq
    refine ⟨ts, h5, ?_⟩
    unfold argA
    rw [ht, show isRowB (some (TypeDesc.struct fs)) = true from rfl, if_pos rfl]
    have hl : cs.size = ts.length := by have := h6.1; simp [Value.cells] at this; exact this.symm
    exact .agg _ cs (by simpa using hl) (fun i hi => by simp [A.single]) (fun i hi => by
      have := h6.2 i (by simpa using hi) (by simp [Value.cells]; have : i < ts.length := by simpa using hi
                                             omega)
      simp only [List.getElem_map]
      exact .t _ _ (by simpa [Value.cells] using this))
  · cases hsh'
end
end Go.Proofs.Ytblikpgdepjhdaa
namespace Go.Proofs.Ytblikpgdepjhdaa
open Go.RowKit
set_option linter.unusedVariables false
theorem typed_nil {ts : List T} (h : TypedL [] ts) : ts = [] := List.eq_nil_of_length_eq_zero h.len
theorem typed_cons {e : ShO} {es : List ShO} {ts : List T} (h : TypedL (e :: es) ts) : ∃ t us, ts = t :: us ∧ TypedT e t ∧ TypedL es us := by
  cases ts with
  | nil => have := h.len; simp at this
  | cons t us => exact ⟨t, us, rfl, h.at_ 0 (by simp) (by simp), by have := h.len; simpa using this, fun j hj hj' => h.at_ (j + 1) (by simpa using hj) (by simpa using hj')⟩
theorem typed_int {k : IntKind} {t : T} (h : TypedT (.int k) t) : ∃ n, t = .v (.int k n) ∧ (Lit.int k n).wf = true := by cases h with | int _ n h => exact ⟨n, rfl, h⟩
theorem typed_str {t : T} (h : TypedT .str t) : ∃ s : ByteArray, t = .v (.string s) ∧ s.size ≤ 140737488351232 := by cases h with | str s h => exact ⟨s, rfl, h⟩
theorem typed_sl {es : List ShO} {t : T} (h : TypedT (.sl es) t) {α : Type} (f : α → List T) (good : α → Prop) (hf : ∀ ts, TypedL es ts → ∃ a, ts = f a ∧ good a) : ∃ l : List α, t = .sl es.length (l.map f) ∧ l.length ≤ 140737488351232 ∧ ∀ a ∈ l, good a := by
  cases h with
  | sl _ xs hm hl ht =>
    have main : ∀ xs : List (List T), (∀ x ∈ xs, TypedL es x) → ∃ l : List α, xs = l.map f ∧ ∀ a ∈ l, good a := fun xs => by
      induction xs with
      | nil => intro _; exact ⟨[], rfl, fun a ha => by simp at ha⟩
      | cons x xs ih =>
        intro hx
        obtain ⟨a, rfl, ha⟩ := hf x (hx x (by simp))
        obtain ⟨l, rfl, hl⟩ := ih (fun y hy => hx y (by simp [hy]))
        exact ⟨a :: l, rfl, fun b hb => by
          rcases List.mem_cons.1 hb with rfl | hb
          · exact ha
          · exact hl b hb⟩
    obtain ⟨l, rfl, hg⟩ := main xs (fun x hx => by
      obtain ⟨i, hi, rfl⟩ := List.getElem_of_mem hx
      exact ⟨hl i hi, fun j hj hj' => ht i hi j hj hj'⟩)
    have hm2 : (l.map f).length ≤ 140737488351232 := hm
    exact ⟨l, rfl, by simpa using hm2, hg⟩
theorem wf_int {k : IntKind} {n : Int} (h : (Lit.int k n).wf = true) : k.min ≤ n ∧ n ≤ k.max := by
  simpa [Lit.wf] using h
end Go.Proofs.Ytblikpgdepjhdaa
