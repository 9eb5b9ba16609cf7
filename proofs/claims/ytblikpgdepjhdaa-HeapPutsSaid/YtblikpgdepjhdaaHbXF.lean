/- Parts of the proof. -/
import Derived.Test.YtblikpgdepjhdaaHbBase
import Derived.Test.YtblikpgdepjhdaaHbXE
import Derived.Test.YtblikpgdepjhdaaHbAxTab
import Derived.Lib.BufferRead
import Derived.Laws.IdiomStrings
import Derived.Laws.StructEq
import Derived.Laws.Cover3
import Derived.Laws.MakeOwn
import Derived.Laws.RangeString
import Derived.Laws.RangeAny
namespace Go.Proofs.Ytblikpgdepjhdaa
set_option linter.unusedVariables false
universe u
section
variable {ι : Type} {β : ι → Type}
def recN (B : ((i : ι) → Option (β i)) → (i : ι) → Option (β i)) : Nat → (i : ι) → Option (β i)
  | 0, _ => none
  | n + 1, i => B (recN B n) i
def bigN : Nat := 1152921504606846976
open Classical in
noncomputable def fixD (B : ((i : ι) → Option (β i)) → (i : ι) → Option (β i)) (i : ι) : Option (β i) :=
  match recN B bigN i with
  | some r => some r
  | none => if h : ∃ n, (recN B n i).isSome = true then recN B (Classical.choose h) i else none
def Fin1 {γ : Type} (F : ((i : ι) → Option (β i)) → Option γ) : Prop :=
  ∀ g r, F g = some r → ∃ l : List ι, ∀ g', (∀ i ∈ l, ∀ x, g i = some x → g' i = some x) → F g' = some r
theorem fin_const {γ : Type} (c : Option γ) : Fin1 (β := β) (fun _ => c) := fun g r h => ⟨[], fun _ _ => h⟩
theorem fin_ask (i : ι) : Fin1 (β := β) (fun g => g i) := fun g r h => ⟨[i], fun g' hg => hg i (by simp) r h⟩
theorem fin_bind {γ δ : Type} {F : ((i : ι) → Option (β i)) → Option γ} {K : γ → ((i : ι) → Option (β i)) → Option δ} (h1 : Fin1 F) (h2 : ∀ x, Fin1 (K x)) : Fin1 (fun g => (F g).bind fun x => K x g) := fun g r h => by
  obtain ⟨x, hx, hr⟩ := Option.bind_eq_some_iff.1 h
  obtain ⟨l1, k1⟩ := h1 g x hx
  obtain ⟨l2, k2⟩ := h2 x g r hr
  refine ⟨l1 ++ l2, fun g' hg => ?_⟩
  show (F g').bind _ = _
  rw [k1 g' fun i hi => hg i (by simp [hi])]
  exact k2 g' fun i hi => hg i (by simp [hi])
theorem fin_ite {γ : Type} {p : Prop} [Decidable p] {F G : ((i : ι) → Option (β i)) → Option γ} (h1 : Fin1 F) (h2 : Fin1 G) : Fin1 (fun g => if p then F g else G g) := by
  by_cases h : p
  · simp only [if_pos h]; exact h1
  · simp only [if_neg h]; exact h2
def optCase {α γ : Type} (x : Option α) (a : γ) (f : α → γ) : γ := match x with | none => a | some y => f y
theorem fin_opt {α γ : Type} {x : Option α} {F : ((i : ι) → Option (β i)) → Option γ} {K : α → ((i : ι) → Option (β i)) → Option γ} (h1 : Fin1 F) (h2 : ∀ y, Fin1 (K y)) : Fin1 (fun g => optCase x (F g) fun y => K y g) := by
  cases x with
  | none => exact h1
  | some y => exact h2 y
theorem oc_nx {α γ : Type} {x : Option α} {a : Option γ} {f : α → Option γ} {r : γ} (hc : x = none) (h : optCase x a f = some r) : a = some r := by rw [hc] at h; exact h
theorem oc_sx {α γ : Type} {x : Option α} {y : α} {a : Option γ} {f : α → Option γ} {r : γ} (hc : x = some y) (h : optCase x a f = some r) : f y = some r := by rw [hc] at h; exact h
variable {B : ((i : ι) → Option (β i)) → (i : ι) → Option (β i)}
theorem fin_le {γ : Type} {F : ((i : ι) → Option (β i)) → Option γ} (h : Fin1 F) {g g' : (i : ι) → Option (β i)} (hg : ∀ i x, g i = some x → g' i = some x) {r : γ} (hr : F g = some r) : F g' = some r := by
  obtain ⟨l, k⟩ := h g r hr
  exact k g' fun i _ => hg i
theorem recN_step (hB : ∀ i, Fin1 (fun g => B g i)) : ∀ n i r, recN B n i = some r → recN B (n + 1) i = some r
  | 0, i, r, h => by cases h
  | n + 1, i, r, h => fin_le (hB i) (recN_step hB n) h
theorem recN_le (hB : ∀ i, Fin1 (fun g => B g i)) {n m : Nat} (hnm : n ≤ m) {i : ι} {r : β i} (h : recN B n i = some r) : recN B m i = some r := by
  induction hnm with
  | refl => exact h
  | step _ ih => exact recN_step hB _ _ _ ih
theorem fix_rec {i : ι} {r : β i} (h : fixD B i = some r) : ∃ n, recN B n i = some r := by
  unfold fixD at h
  split at h
  · rename_i x hx
    exact ⟨bigN, hx.trans h⟩
  · split at h
    · exact ⟨_, h⟩
    · cases h
theorem rec_fix (hB : ∀ i, Fin1 (fun g => B g i)) {n : Nat} {i : ι} {r : β i} (h : recN B n i = some r) : fixD B i = some r := by
  have hx : ∃ n, (recN B n i).isSome = true := ⟨n, by rw [h]; rfl⟩
  have same : ∀ m r', recN B m i = some r' → r' = r := fun m r' hm => by
    have h1 := recN_le hB (Nat.le_max_left n m) h
    have h2 := recN_le hB (Nat.le_max_right n m) hm
    rw [h1] at h2
    cases h2
    rfl
  unfold fixD
  split
  · rename_i x hx
    rw [same _ _ hx]
  · rw [dif_pos hx]
    obtain ⟨r', hr'⟩ := Option.isSome_iff_exists.1 (Classical.choose_spec hx)
    rw [hr', same _ _ hr']
theorem fix_eq (hB : ∀ i, Fin1 (fun g => B g i)) (i : ι) : fixD B i = B (fixD B) i := by
  have main : ∀ r, fixD B i = some r ↔ B (fixD B) i = some r := fun r => by
    constructor
    · intro h
      obtain ⟨n, hn⟩ := fix_rec h
      cases n with
      | zero => cases hn
      | succ n => exact fin_le (hB i) (fun j x hx => rec_fix hB hx) hn
    · intro h
      obtain ⟨l, k⟩ := hB i _ _ h
      have : ∃ N, ∀ j ∈ l, ∀ x, fixD B j = some x → recN B N j = some x := by
        clear k
        induction l with
        | nil => exact ⟨0, fun j hj => by simp at hj⟩
        | cons a l ih =>
          obtain ⟨N, hN⟩ := ih
          cases ha : fixD B a with
          | none =>
            refine ⟨N, fun j hj x hx => ?_⟩
            rcases List.mem_cons.1 hj with rfl | hj
            · rw [ha] at hx; cases hx
            · exact hN j hj x hx
          | some y =>
            obtain ⟨n, hn⟩ := fix_rec ha
            refine ⟨max n N, fun j hj x hx => ?_⟩
            rcases List.mem_cons.1 hj with rfl | hj
            · rw [ha] at hx; cases hx; exact recN_le hB (Nat.le_max_left _ _) hn
            · exact recN_le hB (Nat.le_max_right _ _) (hN j hj x hx)
      obtain ⟨N, hN⟩ := this
      exact rec_fix hB (n := N + 1) (k _ hN)
  cases h : B (fixD B) i with
  | some r => exact (main r).2 h
  | none =>
    cases h' : fixD B i with
    | none => rfl
    | some r => rw [(main r).1 h'] at h; cases h
attribute [irreducible] fixD
end
end Go.Proofs.Ytblikpgdepjhdaa
namespace Go.Proofs.Ytblikpgdepjhdaa
open Go.RowKit
set_option linter.unusedVariables false
variable {P : Program}
abbrev qn (q : Orc) : Option Bool × List Nat × Orc := (none, [], q)
abbrev qt (q : Orc) : Option Bool × List Nat × Orc := (some true, [], q)
abbrev qf (q : Orc) : Option Bool × List Nat × Orc := (some false, [], q)
abbrev qt0 := qt .no
abbrev qf0 := qf .no
theorem aN : AllP [] := trivial
theorem aC {p : Prop} {l : List Prop} (hp : p) (hl : AllP l) : AllP (p :: l) := ⟨hp, hl⟩
abbrev w64 (n : Int) : Int := IntKind.wrap .i64 n
abbrev mkS (s : List UInt8) : ByteArray := ByteArray.mk (Array.mk s)
def getI {α : Type} (xs : List α) (i : Int) : Option α := if 0 ≤ i then xs[i.toNat]? else none
abbrev tI (k : IntKind) (n : Int) : T := .v (.int k n)
abbrev tB (b : Bool) : T := .v (.bool b)
abbrev tS (s : List UInt8) : T := .v (.string (mkS s))
abbrev aI (k : IntKind) (n : Int) : A := .t (.v (.int k n))
abbrev aB (b : Bool) : A := .t (.v (.bool b))
abbrev aS (s : List UInt8) : A := .t (.v (.string (mkS s)))
abbrev aNil : A := .t (.v (.slice none 0 0))
abbrev aPnil : A := .t (.v (.pointer none))
instance (b n : Nat) : Decidable (AppOb b n) := by unfold AppOb; infer_instance
theorem if_t {α : Type} {p : Prop} [Decidable p] {x y : Option α} {r : α} (h : (if p then x else y) = some r) (hb : decide p = true) : x = some r := by
  rw [if_pos (of_decide_eq_true hb)] at h; exact h
theorem if_f {α : Type} {p : Prop} [Decidable p] {x y : Option α} {r : α} (h : (if p then x else y) = some r) (hb : decide p = false) : y = some r := by
  rw [if_neg (of_decide_eq_false hb)] at h; exact h
theorem ib_t {α : Type} {b : Bool} {x y : Option α} {r : α} (h : (if b = true then x else y) = some r) (hb : b = true) : x = some r := by
  rw [if_pos hb] at h; exact h
theorem ib_f {α : Type} {b : Bool} {x y : Option α} {r : α} (h : (if b = true then x else y) = some r) (hb : b = false) : y = some r := by
  rw [if_neg (by rw [hb]; exact Bool.false_ne_true)] at h; exact h
theorem not_t {b : Bool} (h : b = true) : (!b) = false := by rw [h]; rfl
theorem not_f {b : Bool} (h : b = false) : (!b) = true := by rw [h]; rfl
theorem bnot_t {b : Bool} (h : (!b) = true) : b = false := by cases b <;> first | rfl | cases h
theorem bnot_f {b : Bool} (h : (!b) = false) : b = true := by cases b <;> first | rfl | cases h
theorem bind_ok {α β : Type} {x : Option α} {k : α → Option β} {r : β} (h : x.bind k = some r) : ∃ y, x = some y ∧ k y = some r := Option.bind_eq_some_iff.1 h
section
variable {α : Type} {c : α → List T} {xs ys : List α} {i : Int} {x y : α} {b : Nat}
theorem getI_nat (h : getI xs i = some x) : 0 ≤ i ∧ xs[i.toNat]? = some x := by
  unfold getI at h
  split at h
  · rename_i h0; exact ⟨h0, h⟩
  · cases h
theorem ix_ob (h : getI xs i = some x) : IxOb (xs.map c) i i.toNat (c x) := by
  obtain ⟨h0, h1⟩ := getI_nat h
  exact ⟨by omega, by rw [List.getElem?_map, h1]; rfl⟩
theorem el_ob (h : getI xs i = some x) : (xs.map c)[i.toNat]? = some (c x) := (ix_ob h).2
theorem sx_ob {s : List UInt8} {b : UInt8} (h : getI s i = some b) : SxOb (mkS s) i i.toNat b := by
  obtain ⟨h0, h1⟩ := getI_nat h
  refine ⟨by omega, ?_⟩
  obtain ⟨hl, rfl⟩ := List.getElem?_eq_some_iff.1 h1
  exact getElem?_pos (c := mkS s) (i := i.toNat) hl
theorem app_ob : RowOb (xs.map c ++ ys.map c) ((xs ++ ys).map c) := (List.map_append).symm
theorem ap_ob (h : AppOb b (xs.length + ys.length)) : AppOb b ((xs.map c).length + (ys.map c).length) := by rw [List.length_map, List.length_map]; exact h
theorem ix_obx (c : α → List T) (h : getI xs i = some x) : IxOb (xs.map c) i i.toNat (c x) := ix_ob h
theorem el_obx (c : α → List T) (h : getI xs i = some x) : (xs.map c)[i.toNat]? = some (c x) := el_ob h
theorem len_obx (c : α → List T) (xs : List α) : (xs.map c).length = xs.length := List.length_map _
theorem app_obx (c : α → List T) (xs ys : List α) : RowOb (xs.map c ++ ys.map c) ((xs ++ ys).map c) := app_ob
theorem ap_obx (c : α → List T) (h : AppOb b (xs.length + ys.length)) : AppOb b ((xs.map c).length + (ys.map c).length) := ap_ob h
theorem set_obx (c : α → List T) (xs : List α) (i : Nat) (y : α) : RowOb ((xs.map c).set i (c y)) ((xs.set i y).map c) := by unfold RowOb; rw [List.map_set]
end
theorem loop_data (s : ByteArray) : ∀ (n i : Nat) (r : List UInt8), n = s.size - i → ByteArray.toList.loop s i r = r.reverse ++ s.data.toList.drop i
  | 0, i, r, h => by
    unfold ByteArray.toList.loop
    have : s.data.toList.length = s.size := rfl
    rw [if_neg (by omega), List.drop_eq_nil_of_le (by omega)]; simp
  | n + 1, i, r, h => by
    unfold ByteArray.toList.loop
    have hl : s.data.toList.length = s.size := rfl
    rw [if_pos (by omega), loop_data s n (i + 1) _ (by omega)]
    have hi : i < s.data.toList.length := by omega
    rw [← List.getElem_cons_drop hi]
    have : s.get! i = s.data.toList[i] := by
      show s.data[i]! = _
      rw [getElem!_pos s.data i (by simpa using hi)]; simp
    rw [this]; simp
theorem mkS_list (s : List UInt8) : (mkS s).toList = s := by
  unfold ByteArray.toList
  rw [loop_data _ _ 0 [] rfl]; simp
theorem list_beq (a b : List UInt8) : (a == b) = decide (a = b) := by
  by_cases h : a = b <;> simp [h]
theorem str_eq_ob (ty : TypeId) (a b : List UInt8) : BinOb P .eql ty (.string (mkS a)) (.string (mkS b)) (.bool (decide (a = b))) := by
  show some (Value.bool ((mkS a).toList == (mkS b).toList)) = _
  rw [mkS_list, mkS_list, list_beq]
theorem str_ne_ob (ty : TypeId) (a b : List UInt8) : BinOb P .neq ty (.string (mkS a)) (.string (mkS b)) (.bool (!decide (a = b))) := by
  show some (Value.bool (!((mkS a).toList == (mkS b).toList))) = _
  rw [mkS_list, mkS_list, list_beq]
def fixQ {σ : Type} (m : Nat) (N : Nat → σ → Prop) (S : σ → St) (Q : Exit → St → Prop) : Exit → St → Prop
  | .normal, st => ∃ k x', k ≤ m ∧ N k x' ∧ Fits st (S x')
  | e, st => Q e st
theorem W_fix {σ : Type} (N : Nat → σ → Prop) (S : σ → LS) {c : Code} {Q : Exit → St → Prop} (h0 : ∀ x, ¬ N 0 x) (hn : ∀ x y, (S x).n = (S y).n)
    (h : ∀ m x, N (m + 1) x → W P c (S x).st (fixQ m N (fun x => (S x).st) Q)) (n : Nat) (x : σ) (hx : N n x) : W P (.loop c) (S x).st Q := by
  refine W_loop (σ := Nat × σ) (fun p => N p.1 p.2) (fun p => p.1) (fun p => (S p.2).st) (n, x) hx (Fits.refl _) (fun p => hn _ _) ?_
  rintro ⟨m, x⟩ hx
  cases m with
  | zero => exact (h0 x hx).elim
  | succ m =>
    refine fun C a w hP hs => wp_mono (h m x hx C a w hP hs) ?_
    rintro e a' w' ⟨st', h1, h2, h3⟩
    refine ⟨st', h1, ?_, h3⟩
    cases e with
    | normal =>
      obtain ⟨k, x', hk, hN, hf⟩ := h2
      exact ⟨(k, x'), hN, Nat.lt_succ_of_le hk, hf⟩
    | _ => exact h2
theorem W_conv {c : Code} {s s' : LS} {Q : Exit → St → Prop} (v : CV) (hx : convX v s = some s') (h : W P c s'.st Q) : W P c s.st Q := fun C a w hP hs => by
  have hf := convX_fits hx
  refine wp_mono (h C a w hP (hf.2 C a w hs)) fun e a' w' ⟨st', hn, hq, hs'⟩ => ⟨st', by rw [hn, hf.1], hq, hs'⟩
theorem W_pre {c : Code} {st st' : St} {Q : Exit → St → Prop} (hf : Fits st st') (h : W P c st' Q) : W P c st Q := fun C a w hP hs =>
  wp_mono (h C a w hP (hf.2 C a w hs)) fun e a' w' ⟨st'', hn, hq, hs'⟩ => ⟨st'', by rw [hn, hf.1], hq, hs'⟩
def subC : Code → List Nat → Code
  | c, [] => c
  | .seq a _, 0 :: l => subC a l
  | .seq _ b, 1 :: l => subC b l
  | .cond _ a _, 0 :: l => subC a l
  | .cond _ _ b, 1 :: l => subC b l
  | .block _ b, 0 :: l => subC b l
  | .loop b, 0 :: l => subC b l
  | .scope b, 0 :: l => subC b l
  | c, _ => c
def bodyC (P : Program) (f : FuncId) : Code := match P.funcs[f]? with | some fn => (match fn.body with | some c => c | none => .skip) | none => .skip
end Go.Proofs.Ytblikpgdepjhdaa
namespace Go.Proofs.Ytblikpgdepjhdaa
open Go.RowKit
set_option linter.unusedVariables false
variable {P : Program}
def opAt : Code → Nat → Oper
  | .region _ ops _, i => ops.toList.getD i default
  | _, _ => default
def CutR (a b n : Int) : Prop := 0 ≤ a ∧ a ≤ b ∧ b ≤ n
instance (a b n : Int) : Decidable (CutR a b n) := by unfold CutR; infer_instance
end Go.Proofs.Ytblikpgdepjhdaa
namespace Go.Proofs.Ytblikpgdepjhdaa
open Go.RowKit
set_option linter.unusedVariables false
variable {P : Program}
def BytesOb (xs : List Int) : Prop := ∀ x ∈ xs, 0 ≤ x ∧ x < 256
instance (xs : List Int) : Decidable (BytesOb xs) := by unfold BytesOb; infer_instance
end Go.Proofs.Ytblikpgdepjhdaa
namespace Go.Proofs.Ytblikpgdepjhdaa
open Go.RowKit
set_option linter.unusedVariables false
variable {P : Program}
section
variable {α : Type} {o : Oper} {t e : TypeId} {te : TI} {x y z : Operand} {k : Nat} {xs : List α} {ka kb : IntKind} {b : Int}
end
section
variable {α : Type} {o : Oper} {t e : TypeId} {te : TI} {x y z : Operand} {k : Nat} {xs : List α} {ka kb : IntKind} {a b : Int} {s : List UInt8}
end
def eqV : Value → Value → Bool
  | .int _ a, .int _ b => decide (a = b)
  | .string s, .string u => decide (s.data.toList = u.data.toList)
  | .bool a, .bool b => a == b
  | _, _ => false
def eqL : List Value → List Value → Bool
  | [x], [y] => eqV x y
  | x :: l, y :: r => eqV x y && eqL l r
  | _, _ => true
def eqKind (P : Program) (t : TypeId) : Value → Value → Bool
  | .int k _, .int k' _ => (match P.underlying t with | some (.int _) => decide (k = k') | _ => false)
  | .string _, .string _ => (match P.underlying t with | some .string => true | _ => false)
  | .bool _, .bool _ => (match P.underlying t with | some .bool => true | _ => false)
  | _, _ => false
def eqFlat (P : Program) : Nat → List Field → List Value → List Value → Bool
  | _, [], [], [] => true
  | i, f :: fs, x :: l, y :: r => (match decide (f.name ≠ "_"), Nat.beq f.offset i, tinfo P f.type with
    | true, true, some ti => (match Nat.beq ti.size 1, ti.agg, eqKind P f.type x y with
      | true, false, true => eqFlat P (i + 1) fs l r
      | _, _, _ => false)
    | _, _, _ => false)
  | _, _, _, _ => false
def eqAll (P : Program) (t : TypeId) (xs ys : List Value) : Bool :=
  match P.underlying t with
  | some (.struct fs) => (match P.stoodInHeld t, P.eqGuardType P.depth t, xs with
    | false, false, _ :: _ => eqFlat P 0 fs.toList xs ys
    | _, _, _ => false)
  | _ => false
theorem list_beqB (a b : List UInt8) : (a == b) = decide (a = b) := by
  by_cases h : a = b
  · subst h; simp
  · simp [h]
theorem eqKind_run {t : TypeId} {x y : Value} (h : eqKind P t x y = true) (d : Nat) (w : World) : (Op.equalIn (d + 1) t x y).run P w = .ok (eqV x y) w := by
  unfold eqKind at h
  split at h
  · split at h
    · rename_i a k' b _ k'' hu
      have : _ = _ := of_decide_eq_true h
      subst this
      rw [run_equalIn_int w d t _ _ a b hu]
      rfl
    · cases h
  · split at h
    · rename_i s u _ hu
      rw [run_equalIn_string w d t s u hu]
      congr 1
      show (s.toList == u.toList) = decide (s.data.toList = u.data.toList)
      have e1 : ∀ b : ByteArray, b.toList = b.data.toList := fun b => mkS_list b.data.toList
      rw [e1, e1, list_beqB]
    · cases h
  · split at h
    · rename_i a b _ hu
      exact run_equalIn_bool' w d t a b hu
    · cases h
  · cases h
theorem part_one {t : TypeId} {ti : TI} (ht : tinfo P t = some ti) (ha : ti.agg = false) (cs : Array Value) (i : Nat) (v : Value) (hv : cs[i]? = some v) (w : World) : (part t cs i).run P w = .ok v w := by
  obtain ⟨inf, d, z, hi, hu, hz, q1, q2, q3, q4, q5, q6, q7, q8, q9⟩ := (tparts ht).ex
  unfold part
  rw [Sem.run_bind, run_isAgg hu w, Result.andThen_ok, ← q3, ha]
  simp [hv]
theorem eqFlat_run (d : Nat) (xs ys : List Value) (w : World) : ∀ (fs : List Field) (l r : List Value) (i : Nat), xs.drop i = l → ys.drop i = r → eqFlat P i fs l r = true →
    (Op.eqFields (d + 1) ⟨xs⟩ ⟨ys⟩ fs).run P w = .ok (eqL l r) w
  | [], l, r, i, hl, hr, h => by
    cases l with
    | cons => cases r <;> simp [eqFlat] at h
    | nil => cases r with
      | cons => simp [eqFlat] at h
      | nil => simp [Op.eqFields, eqL]
  | f :: fs, l, r, i, hl, hr, h => by
    cases l with
    | nil => cases r <;> simp [eqFlat] at h
    | cons x l => cases r with
      | nil => simp [eqFlat] at h
      | cons y r =>
        simp only [eqFlat] at h
        split at h
        · rename_i ti hn ho ht
          split at h
          · rename_i hs ha hk
            have hoff : f.offset = i := beq_t ho
            have hx : (⟨xs⟩ : Array Value)[f.offset]? = some x := by
              rw [hoff]; have := congrArg (·[0]?) hl; simpa using this
            have hy : (⟨ys⟩ : Array Value)[f.offset]? = some y := by
              rw [hoff]; have := congrArg (·[0]?) hr; simpa using this
            have hl' : xs.drop (i + 1) = l := by rw [← List.drop_drop, hl]; rfl
            have hr' : ys.drop (i + 1) = r := by rw [← List.drop_drop, hr]; rfl
            have ih := eqFlat_run d xs ys w fs l r (i + 1) hl' hr' h
            have hn' : f.name ≠ "_" := of_decide_eq_true hn
            simp only [Op.eqFields, if_pos hn', Sem.run_bind, part_one ht ha _ _ _ hx, part_one ht ha _ _ _ hy, Result.andThen_ok, eqKind_run hk]
            have key : eqL (x :: l) (y :: r) = (eqV x y && eqL l r) := by
              cases l with
              | nil => cases r with
                | nil => simp [eqL]
                | cons => cases fs <;> simp [eqFlat] at h
              | cons => simp [eqL]
            rw [key]
            cases eqV x y with
            | false => simp
            | true => simpa using ih
          · cases h
        · cases h
theorem rep_vals {w : World} {M : Nat → Prop} {xs : List Value} {v : Value} (h : RepF w M (.agg (xs.map A.v)) v) : v = .agg ⟨xs⟩ := by
  cases h with
  | agg _ vs hs h1 hr =>
    congr 1
    refine Array.ext (by simpa using hs) fun i h1' h2' => ?_
    have := hr i (by simpa using h2')
    simp only [List.getElem_map] at this
    rw [rep_val this]
    simp
theorem equal_run {t : TypeId} {xs ys : List Value} (h : eqAll P t xs ys = true) (w : World) : (Op.equalIn 10000 t (.agg ⟨xs⟩) (.agg ⟨ys⟩)).run P w = .ok (eqL xs ys) w ∧ P.eqGuardType P.depth t = false := by
  unfold eqAll at h
  split at h
  · rename_i fs hu
    split at h
    · rename_i x l hst hg
      have hf : P.fieldsOf t = fs := by simp [Program.fieldsOf, hu]
      refine ⟨?_, hg⟩
      rw [run_equalIn_struct w 9999 t _ _ (by rw [hf]; exact hu) hst, hf]
      exact eqFlat_run 9998 _ _ w _ _ _ 0 rfl rfl h
    · cases h
  · cases h
theorem eqA_ob {o : Oper} {t : TypeId} {x y : Operand} {hh : Option Operand} {ne : Bool} {xs ys : List Value} {e : Bool} (ho : ∃ q, o.op = .binOp (cond ne .neq .eql) t x y q) (h : eqAll P t xs ys = true) (he : eqL xs ys = e) :
    Quiet P o [.agg (xs.map A.v), .agg (ys.map A.v)] (aB (cond ne (!e) e)) := by
  intro w M ρ _ hl hr
  obtain ⟨q, ho⟩ := ho
  have h0 := hr 0 (by simp) (by rw [ho]; simp [opL])
  have h1 := hr 1 (by simp) (by rw [ho]; simp [opL])
  have e0 : (opL o.op)[0]'(by rw [ho]; simp [opL]) = x := by simp [ho, opL]
  have e1 : (opL o.op)[1]'(by rw [ho]; simp [opL]) = y := by simp [ho, opL]
  rw [e0] at h0; rw [e1] at h1
  have v0 : ρ x = .agg ⟨xs⟩ := rep_vals h0
  have v1 : ρ y = .agg ⟨ys⟩ := rep_vals h1
  obtain ⟨hrun, hg⟩ := equal_run h w
  subst he
  cases ne with
  | false =>
    refine ⟨.bool (eqL xs ys), w, ?_, Below.refl _ _, .t _ _ (.v _ rfl)⟩
    unfold execOp
    simp only [ho, v0, v1, cond_false, Sem.run_bind, run_eqGuard_agg w _ t x y _ _ hg, Result.andThen_ok, run_eql_struct, hrun, Sem.run_pure]
  | true =>
    refine ⟨.bool (!eqL xs ys), w, ?_, Below.refl _ _, .t _ _ (.v _ rfl)⟩
    unfold execOp
    simp only [ho, v0, v1, cond_true, Sem.run_bind, run_eqGuard_agg w _ t x y _ _ hg, Result.andThen_ok, run_neq_struct, hrun, Sem.run_pure]
theorem call2_run {o : Oper} {c : Call} {b : Builtin} (ho : o.op = .call c) (hc : c.callee = .builtin b) {x y : Operand} (hxy : c.args = #[x, y]) (ρ : Operand → Value) (w : World) :
    ∃ cs, (execOp ρ o).run P w = (builtin b c.argTypes o.type cs #[ρ x, ρ y]).run P w := by
  refine ⟨c.args.map (fun | .const _ => true | _ => false), ?_⟩
  unfold execOp
  simp only [ho, resolve, hc, Sem.run_bind, Sem.run_pure, Result.andThen_ok, invoke]
  rw [hxy, show (#[x, y] : Array Operand).map ρ = #[ρ x, ρ y] by simp]
  have e : ∀ f g : Operand → Bool, (∀ z, f z = g z) → f = g := fun f g h => funext h
  refine congrArg (fun q => (builtin b c.argTypes o.type (Array.map q #[x, y]) #[ρ x, ρ y]).run P w) (e _ _ fun z => ?_)
  cases z <;> rfl
theorem two_vals {o : Oper} {c : Call} {b : Builtin} (ho : o.op = .call c) (hc : c.callee = .builtin b) {x y : Operand} (hxy : c.args = #[x, y]) {w : World} {M : Nat → Prop} {ρ : Operand → Value} {p q : A} (hl : [p, q].length = (opL o.op).length)
    (hr : ∀ i (hi : i < [p, q].length) (hi' : i < (opL o.op).length), RepF w M ([p, q][i]) (ρ ((opL o.op)[i]))) : RepF w M p (ρ x) ∧ RepF w M q (ρ y) := by
  have hL : opL o.op = [x, y] := by rw [ho]; simp [opL, hc, hxy]
  have h0 := hr 0 (by simp) (by rw [hL]; simp)
  have h1 := hr 1 (by simp) (by rw [hL]; simp)
  simp only [hL] at h0 h1
  exact ⟨h0, h1⟩
theorem min_ob {o : Oper} {k : IntKind} {a b : Int} {c : Call} (ho : o.op = .call c) (hc : c.callee = .builtin .min) {x y : Operand} (hxy : c.args = #[x, y]) : Quiet P o [aI k a, aI k b] (aI k (if b < a then b else a)) := by
  intro w M ρ _ hl hr
  obtain ⟨h0, h1⟩ := two_vals ho hc hxy hl hr
  obtain ⟨cs, e⟩ := call2_run (P := P) ho hc hxy ρ w
  refine ⟨.int k (if b < a then b else a), w, ?_, Below.refl _ _, .t _ _ (.v _ rfl)⟩
  rw [e, rep_val h0, rep_val h1]
  simp [builtin, Builtin.min_, Builtin.min2]
theorem max_ob {o : Oper} {k : IntKind} {a b : Int} {c : Call} (ho : o.op = .call c) (hc : c.callee = .builtin .max) {x y : Operand} (hxy : c.args = #[x, y]) : Quiet P o [aI k a, aI k b] (aI k (if a < b then b else a)) := by
  intro w M ρ _ hl hr
  obtain ⟨h0, h1⟩ := two_vals ho hc hxy hl hr
  obtain ⟨cs, e⟩ := call2_run (P := P) ho hc hxy ρ w
  refine ⟨.int k (if a < b then b else a), w, ?_, Below.refl _ _, .t _ _ (.v _ rfl)⟩
  rw [e, rep_val h0, rep_val h1]
  simp [builtin, Builtin.max_, Builtin.max2]
end Go.Proofs.Ytblikpgdepjhdaa
namespace Go.Proofs.Ytblikpgdepjhdaa
open Go.RowKit
set_option linter.unusedVariables false
variable {P : Program}
def MakeOb (bytes : Nat) (n : Int) : Prop := 0 ≤ n ∧ bytes * n ≤ 281474976710656 ∧ n ≤ maxLen
instance (b : Nat) (n : Int) : Decidable (MakeOb b n) := by unfold MakeOb; infer_instance
end Go.Proofs.Ytblikpgdepjhdaa
namespace Go.Proofs.Ytblikpgdepjhdaa
open Go.RowKit
set_option linter.unusedVariables false
theorem wrap64 {n : Int} (h0 : -9223372036854775808 ≤ n) (h1 : n ≤ 9223372036854775807) : w64 n = n := by
  show IntKind.wrap .i64 n = n
  rw [IntKind.wrap_i64]; omega
theorem getI_at {α : Type} {xs : List α} {i : Int} (h0 : 0 ≤ i) (h : i < xs.length) : getI xs i = some (xs[i.toNat]'(by omega)) := by
  unfold getI
  rw [if_pos h0, List.getElem?_eq_getElem]
theorem getI_nat' {α : Type} {xs : List α} {i : Nat} (h : i < xs.length) : getI xs (i : Int) = some (xs[i]) := by
  rw [getI_at (by omega) (by omega)]; simp
theorem getI_out {α : Type} {xs : List α} {i : Int} (h : i < 0 ∨ (xs.length : Int) ≤ i) : getI xs i = none := by
  unfold getI
  split
  · rw [List.getElem?_eq_none]; omega
  · rfl
theorem obind_some {α β : Type} {x : α} {k : α → Option β} : (some x).bind k = k x := rfl
end Go.Proofs.Ytblikpgdepjhdaa
namespace Go.Proofs.Ytblikpgdepjhdaa
open Go.RowKit
set_option linter.unusedVariables false
variable {P : Program}
def keepE (s : LS) : List Nat → List (Nat × A)
  | [] => []
  | t :: l => (t, lkE s.es t) :: keepE s l
def pickM (s : LS) : List (Nat × Option Blk) → List (Nat × Option Blk)
  | [] => []
  | (i, some b) :: l => (i, some b) :: pickM s l
  | (i, none) :: l => (i, getM s.ms i) :: pickM s l
def LS.e (s : LS) (nw : List (Nat × A)) (kp : List Nat) (mm : List (Nat × Option Blk)) : LS := ⟨s.n, nw ++ keepE s kp, pickM s mm⟩
abbrev q_ : Option Bool × List Nat × Orc := (none, [], .no)
abbrev k_ (i : Nat) : Nat × Option Blk := (i, none)
def qz : Nat → List (Option Bool × List Nat × Orc) → List (Option Bool × List Nat × Orc)
  | 0, l => l
  | n + 1, l => q_ :: qz n l
def c0 (G : List Nat) : CV := ⟨G, [], [], [], [], [], []⟩
def cR (l G : List Nat) : CV := ⟨G, [], [], [], l.map fun i => (i, i), [], []⟩
def cB (b l G : List Nat) : CV := ⟨G, [], b, [], l.map fun i => (i, i), [], []⟩
def cG (N : List (Nat × Nat × NilTo)) (B : List Nat) (M : List (Nat × Nat × NilTo)) (R : List (Nat × Nat)) (F : List Nat) (Z : List (Nat × Nat × Nat)) (G : List Nat) : CV := ⟨G, N, B, M, R, F, Z⟩
theorem W_z (hmix : P.follows .mixedOrders = true) {id : Nat} {dr : Bool} {ops : Array Oper} {y : Code} {s : LS} {Q : Exit → St → Prop} (nw : List (Nat × A)) (kp : List Nat) (mm : List (Nat × Option Blk)) (v : List Nat → CV)
    (qs : List (Option Bool × List Nat × Orc)) {obs : List Prop} (ho : AllP obs) (hx : regX P dr ops qs (v (nw.map (·.1) ++ kp)) s = some (obs, s.e nw kp mm)) (h : W P y (s.e nw kp mm).st Q) : W P (.seq (.region id ops dr) y) s.st Q :=
  W_seq (W_x hmix qs _ obs hx ho h)
theorem W_zl (hmix : P.follows .mixedOrders = true) {id : Nat} {dr : Bool} {ops : Array Oper} {s : LS} {Q : Exit → St → Prop} (nw : List (Nat × A)) (kp : List Nat) (mm : List (Nat × Option Blk)) (v : List Nat → CV)
    (qs : List (Option Bool × List Nat × Orc)) {obs : List Prop} (ho : AllP obs) (hx : regX P dr ops qs (v (nw.map (·.1) ++ kp)) s = some (obs, s.e nw kp mm)) (h : Q .normal (s.e nw kp mm).st) : W P (.region id ops dr) s.st Q :=
  W_x hmix qs _ obs hx ho h
def dropE (ks : List Nat) : List (Nat × A) → List (Nat × A)
  | [] => []
  | (t, a) :: l => match memN ks t with | true => dropE ks l | false => (t, a) :: dropE ks l
def dropM (ks : List Nat) : List (Nat × Option Blk) → List (Nat × Option Blk)
  | [] => []
  | (i, b) :: l => match memN ks i with | true => dropM ks l | false => (i, b) :: dropM ks l
def isBx : Nat × Option Blk → Bool
  | (_, some (.box _ _)) => true
  | _ => false
def boxesM : List (Nat × Option Blk) → List (Nat × Option Blk)
  | [] => []
  | p :: l => match isBx p with | true => p :: boxesM l | false => boxesM l
def restM : List (Nat × Option Blk) → List (Nat × Option Blk)
  | [] => []
  | p :: l => match isBx p with | true => restM l | false => p :: restM l
def LS.d (s : LS) (nw : List (Nat × A)) (dr : List Nat) (nb : List (Nat × Blk)) (dm : List Nat) : LS :=
  ⟨s.n, nw ++ dropE (nw.map (·.1) ++ dr) s.es, boxesM (dropM (nb.map (·.1) ++ dm) s.ms ++ someMs nb) ++ restM (dropM (nb.map (·.1) ++ dm) s.ms ++ someMs nb)⟩
def cvd (s : LS) : CV := ⟨s.es.map (·.1), [], (boxesM s.ms).map (·.1), [], (restM s.ms).map fun p => (p.1, p.1), [], []⟩
theorem W_d (hmix : P.follows .mixedOrders = true) {id : Nat} {dr : Bool} {ops : Array Oper} {y : Code} {s : LS} {Q : Exit → St → Prop} (nw : List (Nat × A)) (gs : List Nat) (nb : List (Nat × Blk)) (gm : List Nat)
    (qs : List (Option Bool × List Nat × Orc)) {obs : List Prop} (ho : AllP obs) (hx : regX P dr ops qs (cvd (s.d nw gs nb gm)) s = some (obs, s.d nw gs nb gm)) (h : W P y (s.d nw gs nb gm).st Q) : W P (.seq (.region id ops dr) y) s.st Q :=
  W_seq (W_x hmix qs _ obs hx ho h)
theorem W_dl (hmix : P.follows .mixedOrders = true) {id : Nat} {dr : Bool} {ops : Array Oper} {s : LS} {Q : Exit → St → Prop} (nw : List (Nat × A)) (gs : List Nat) (nb : List (Nat × Blk)) (gm : List Nat)
    (qs : List (Option Bool × List Nat × Orc)) {obs : List Prop} (ho : AllP obs) (hx : regX P dr ops qs (cvd (s.d nw gs nb gm)) s = some (obs, s.d nw gs nb gm)) (h : Q .normal (s.d nw gs nb gm).st) : W P (.region id ops dr) s.st Q :=
  W_x hmix qs _ obs hx ho h
def mv (a b : Nat) (l : List Nat) : List (Nat × Nat) := l.map fun c => (a + c, b + c)
section
variable {α : Type} {p : Prop} [Decidable p] {b : Bool} {X Y : Option α} {r : α} {G : Prop}
theorem if_c (h : (if p then X else Y) = some r) (ht : decide p = true → X = some r → G) (hf : decide p = false → Y = some r → G) : G :=
  (Bool.eq_false_or_eq_true (decide p)).elim (fun e => ht e (if_t h e)) (fun e => hf e (if_f h e))
theorem ib_c (h : (if b = true then X else Y) = some r) (ht : b = true → X = some r → G) (hf : b = false → Y = some r → G) : G :=
  (Bool.eq_false_or_eq_true b).elim (fun e => ht e (ib_t h e)) (fun e => hf e (ib_f h e))
variable {st : St} {c : Operand} {x y : Code} {Q : Exit → St → Prop}
theorem W_cd (h : (if p then X else Y) = some r) (hc : st.ev c = .v (.bool (decide p))) (ht : decide p = true → X = some r → W P x st Q) (hf : decide p = false → Y = some r → W P y st Q) : W P (.cond c x y) st Q :=
  W_cond _ hc (fun e => ht e (if_t h e)) (fun e => hf e (if_f h e))
theorem W_cdn (h : (if p then X else Y) = some r) (hc : st.ev c = .v (.bool (!decide p))) (hf : decide p = true → X = some r → W P y st Q) (ht : decide p = false → Y = some r → W P x st Q) : W P (.cond c x y) st Q :=
  W_cond _ hc (fun e => ht (bnot_t e) (if_f h (bnot_t e))) (fun e => hf (bnot_f e) (if_t h (bnot_f e)))
theorem W_cb (h : (if b = true then X else Y) = some r) (hc : st.ev c = .v (.bool b)) (ht : b = true → X = some r → W P x st Q) (hf : b = false → Y = some r → W P y st Q) : W P (.cond c x y) st Q :=
  W_cond _ hc (fun e => ht e (ib_t h e)) (fun e => hf e (ib_f h e))
theorem W_cbn (h : (if b = true then X else Y) = some r) (hc : st.ev c = .v (.bool (!b))) (hf : b = true → X = some r → W P y st Q) (ht : b = false → Y = some r → W P x st Q) : W P (.cond c x y) st Q :=
  W_cond _ hc (fun e => ht (bnot_t e) (ib_f h (bnot_t e))) (fun e => hf (bnot_f e) (ib_t h (bnot_f e)))
theorem W_ct {e : Bool} (he : e = true) (hc : st.ev c = .v (.bool e)) (h : W P x st Q) : W P (.cond c x y) st Q := W_cond e hc (fun _ => h) (fun e' => nomatch (he.symm.trans e'))
theorem W_cf {e : Bool} (he : e = false) (hc : st.ev c = .v (.bool e)) (h : W P y st Q) : W P (.cond c x y) st Q := W_cond e hc (fun e' => nomatch (he.symm.trans e')) (fun _ => h)
end
def rvF (P : Program) (f : FuncId) : List ResultVar := match P.funcs[f]? with | some fn => fn.results.toList | none => []
def ntF (P : Program) (f : FuncId) : Nat := match P.funcs[f]? with | some fn => fn.ntmps | none => 0
def okFn (P : Program) (f : FuncId) (n : Nat) : Bool := match P.funcs[f]? with | some fn => (match fn.body with | some _ => plainFn P f && Nat.ble n fn.ntmps | none => false) | none => false
def KR {ρ : Type} (P : Program) (f : FuncId) (enc : ρ → A) (r : ρ) (ex : Exit) (Q : Exit → St → Prop) : Prop := ∀ (ns : List (Nat × Nat × Nat)) (s : LS) (x : ρ), retX P ns (rvF P f) s = some (enc x) → x = r → Q ex s.st
def KRI {ρ : Type} (P : Program) (f : FuncId) (enc : ρ → A × List (Nat × Blk)) (r : ρ) (ex : Exit) (Q : Exit → St → Prop) : Prop := ∀ (v : CV) (s : LS) (x : ρ), retIOX P v (rvF P f) s = some (enc x) → x = r → Q ex s.st
theorem fn_pureZ {f : FuncId} {args : List A} {ρ : Type} {enc : ρ → A} {r : ρ} (hk : okFn P f args.length = true)
    (h : ∀ Q : Exit → St → Prop, KR P f enc r .ret Q → KR P f enc r .normal Q → W P (subC (bodyC P f) []) (LS.mk (ntF P f) (entE 0 args) []).st Q) : FnP P f args (enc r) := by
  unfold okFn at hk
  split at hk
  · rename_i fn hf
    split at hk
    · rename_i c hb
      simp only [Bool.and_eq_true] at hk
      refine fn_pureX hf hb hk.1 (Nat.le_of_ble_eq_true hk.2) ?_
      have h1 := h (retQ P fn (enc r)) (fun ns s x hx e => by subst e; refine ret_ok ns ?_; unfold rvF at hx; rw [hf] at hx; exact hx) (fun ns s x hx e => by subst e; refine ret_end ns ?_; unfold rvF at hx; rw [hf] at hx; exact hx)
      have e1 : subC (bodyC P f) [] = c := by unfold bodyC; rw [hf]; simp only [hb]; cases c <;> rfl
      have e2 : ntF P f = fn.ntmps := by unfold ntF; rw [hf]
      rw [e1, e2] at h1
      exact h1
    · cases hk
  · cases hk
theorem fn_ioZ {f : FuncId} {args : List A} {m : List (Nat × Blk)} {ρ : Type} {enc : ρ → A × List (Nat × Blk)} {r : ρ} (hk : okFn P f args.length = true) (h9 : Nat.ble (ntF P f) 900 = true)
    (h : ∀ Q : Exit → St → Prop, KRI P f enc r .ret Q → KRI P f enc r .normal Q → W P (subC (bodyC P f) []) (LS.mk (ntF P f) (entE 0 args) (someMs m)).st Q) : FnIO P f args m (enc r).1 (enc r).2 := by
  unfold okFn at hk
  split at hk
  · rename_i fn hf
    split at hk
    · rename_i c hb
      simp only [Bool.and_eq_true] at hk
      have e2 : ntF P f = fn.ntmps := by unfold ntF; rw [hf]
      rw [e2] at h9
      refine fn_ioX hf hb hk.1 (Nat.le_of_ble_eq_true hk.2) (Nat.le_of_ble_eq_true h9) ?_
      have h1 := h (retIO P fn (enc r).1 (enc r).2) (fun ns s x hx e => by subst e; refine retIO_ret ns ?_; unfold rvF at hx; rw [hf] at hx; exact hx) (fun ns s x hx e => by subst e; refine retIO_end ns ?_; unfold rvF at hx; rw [hf] at hx; exact hx)
      have e1 : subC (bodyC P f) [] = c := by unfold bodyC; rw [hf]; simp only [hb]; cases c <;> rfl
      rw [e1, e2] at h1
      exact h1
    · cases hk
  · cases hk
def KX {ι : Type} {β : ι → Type} (B : ((i : ι) → Option (β i)) → (i : ι) → Option (β i)) (n : Nat) (i : ι) (r : β i) (S : LS) (ex : Exit) (Q : Exit → St → Prop) : Prop := ∀ q, q < n → ∀ s : LS, recN B q i = some r → Fits s.st S.st → Q ex s.st
theorem oinj {α : Type} {x y : α} (h : some x = some y) : x = y := Option.some.inj h
theorem Wd {id : Nat} {dr : Bool} {ops : Array Oper} {y : Code} {s : LS} {Q : Exit → St → Prop} (nw : List (Nat × A)) (gs : List Nat) (nb : List (Nat × Blk)) (gm : List Nat)
    (qs : List (Option Bool × List Nat × Orc)) {obs : List Prop} (ho : AllP obs) (h : W Try.prog y (s.d nw gs nb gm).st Q) (hx : regX Try.prog dr ops qs (cvd (s.d nw gs nb gm)) s = some (obs, s.d nw gs nb gm) := by kernel_rfl) : W Try.prog (.seq (.region id ops dr) y) s.st Q :=
  W_d mixed nw gs nb gm qs ho hx h
theorem We {id : Nat} {dr : Bool} {ops : Array Oper} {s : LS} {Q : Exit → St → Prop} (nw : List (Nat × A)) (gs : List Nat) (nb : List (Nat × Blk)) (gm : List Nat)
    (qs : List (Option Bool × List Nat × Orc)) {obs : List Prop} (ho : AllP obs) (h : Q .normal (s.d nw gs nb gm).st) (hx : regX Try.prog dr ops qs (cvd (s.d nw gs nb gm)) s = some (obs, s.d nw gs nb gm) := by kernel_rfl) : W Try.prog (.region id ops dr) s.st Q :=
  W_dl mixed nw gs nb gm qs ho hx h
theorem Wz {id : Nat} {dr : Bool} {ops : Array Oper} {y : Code} {s : LS} {Q : Exit → St → Prop} (nw : List (Nat × A)) (kp : List Nat) (mm : List (Nat × Option Blk)) (v : List Nat → CV)
    (qs : List (Option Bool × List Nat × Orc)) {obs : List Prop} (ho : AllP obs) (h : W Try.prog y (s.e nw kp mm).st Q) (hx : regX Try.prog dr ops qs (v (nw.map (·.1) ++ kp)) s = some (obs, s.e nw kp mm) := by kernel_rfl) : W Try.prog (.seq (.region id ops dr) y) s.st Q :=
  W_z mixed nw kp mm v qs ho hx h
theorem Wy {id : Nat} {dr : Bool} {ops : Array Oper} {s : LS} {Q : Exit → St → Prop} (nw : List (Nat × A)) (kp : List Nat) (mm : List (Nat × Option Blk)) (v : List Nat → CV)
    (qs : List (Option Bool × List Nat × Orc)) {obs : List Prop} (ho : AllP obs) (h : Q .normal (s.e nw kp mm).st) (hx : regX Try.prog dr ops qs (v (nw.map (·.1) ++ kp)) s = some (obs, s.e nw kp mm) := by kernel_rfl) : W Try.prog (.region id ops dr) s.st Q :=
  W_zl mixed nw kp mm v qs ho hx h
theorem kre {ρ : Type} {P : Program} {f : FuncId} {enc : ρ → A} {r : ρ} {ex : Exit} {Q : Exit → St → Prop} (kr : KR P f enc r ex Q) (ns : List (Nat × Nat × Nat)) {s : LS} {x : ρ} (h : some x = some r) (hx : retX P ns (rvF P f) s = some (enc x) := by kernel_rfl) : Q ex s.st := kr ns s x hx (oinj h)
theorem kri {ρ : Type} {P : Program} {f : FuncId} {enc : ρ → A × List (Nat × Blk)} {r : ρ} {ex : Exit} {Q : Exit → St → Prop} (kr : KRI P f enc r ex Q) (v : CV) {s : LS} {x : ρ} (h : some x = some r) (hx : retIOX P v (rvF P f) s = some (enc x) := by kernel_rfl) : Q ex s.st := kr v s x hx (oinj h)
theorem bindk {α β : Type} {a : Option α} {k : α → Option β} {z : β} {R : α → Prop} (f : ∀ {r}, a = some r → R r) (h : a.bind k = some z) : ∃ r, R r ∧ k r = some z := by
  cases a with
  | none => cases h
  | some r => exact ⟨r, f rfl, h⟩
section
variable {α : Type} {b : Nat} {xs ys z : List α} {i : Int} {x y : α}
def appD (b : Nat) (xs ys : List α) : Option (List α) := if AppOb b (xs.length + ys.length) then some (xs ++ ys) else none
theorem appD_some (h : appD b xs ys = some z) : AppOb b (xs.length + ys.length) ∧ xs ++ ys = z := by
  unfold appD at h
  split at h
  · rename_i h1; exact ⟨h1, oinj h⟩
  · cases h
theorem apd_a (c : α → List T) (h : appD b xs ys = some z) : AppOb b ((xs.map c).length + (ys.map c).length) := ap_obx c (appD_some h).1
theorem apd_r (c : α → List T) (h : appD b xs ys = some z) : RowOb (xs.map c ++ ys.map c) (z.map c) := (appD_some h).2 ▸ app_obx c xs ys
def setD (xs : List α) (i : Int) (y : α) : Option (List α) := some (xs.set i.toNat y)
theorem std_r (c : α → List T) (h : setD xs i y = some z) : RowOb ((xs.map c).set i.toNat (c y)) (z.map c) := oinj h ▸ set_obx c xs _ y
end
theorem Wc {c : Code} {s s' : LS} {Q : Exit → St → Prop} (v : CV) (h : W P c s'.st Q) (hx : convX v s = some s' := by kernel_rfl) : W P c s.st Q := W_conv v hx h
theorem cvf {s S : LS} (v : CV) (hx : convX v s = some S := by kernel_rfl) : Fits s.st S.st := convX_fits (v := v) hx
end Go.Proofs.Ytblikpgdepjhdaa
namespace Go.Proofs.Ytblikpgdepjhdaa
open Go.RowKit
set_option linter.unusedVariables false
set_option maxRecDepth 100000
set_option maxHeartbeats 4000000
def c_L {α : Type} (k : Nat) (c : α → List T) (x : List α) : List T := [.sl k (x.map c)]
structure GApiValue where
  Kind : Int
  N : Int
  Re : Int
  Im : Int
deriving DecidableEq, Inhabited
def c_GApiValue (x : GApiValue) : List T := [tI .u8 x.Kind, tI .i64 x.N, tI .i64 x.Re, tI .i64 x.Im]
def b_GApiValue (x : GApiValue) : List A := [aI .u8 x.Kind, aI .i64 x.N, aI .i64 x.Re, aI .i64 x.Im]
def e_GApiValue (x : GApiValue) : A := .agg (b_GApiValue x)
structure GApiObj where
  Kind : Int
  Of : Int
  Text : (List UInt8)
  Vals : (List GApiValue)
deriving DecidableEq, Inhabited
def c_GApiObj (x : GApiObj) : List T := [tI .u8 x.Kind, tI .i64 x.Of, tS x.Text, .sl 4 (x.Vals.map c_GApiValue)]
def b_GApiObj (x : GApiObj) : List A := [aI .u8 x.Kind, aI .i64 x.Of, aS x.Text, .t (.sl 4 (x.Vals.map c_GApiValue))]
def e_GApiObj (x : GApiObj) : A := .agg (b_GApiObj x)
structure GR11H where
  Room : Int
  Cells : Int
  L : (List GApiObj)
deriving DecidableEq, Inhabited
def b_GR11H (x : GR11H) : List A := [aI .i64 x.Room, aI .i64 x.Cells, .t (.sl 4 (x.L.map c_GApiObj))]
def e_GR11H (x : GR11H) : A := .agg (b_GR11H x)
structure GL11Op where
  Kind : Int
  Of : Int
  N : Int
  Text : (List UInt8)
  V : GApiValue
  X : GApiValue
  Vals : (List GApiValue)
deriving DecidableEq, Inhabited
def c_GL11Op (x : GL11Op) : List T := [tI .i64 x.Kind, tI .i64 x.Of, tI .i64 x.N, tS x.Text, tI .u8 x.V.Kind, tI .i64 x.V.N, tI .i64 x.V.Re, tI .i64 x.V.Im, tI .u8 x.X.Kind, tI .i64 x.X.N, tI .i64 x.X.Re, tI .i64 x.X.Im, .sl 4 (x.Vals.map c_GApiValue)]
def b_GL11Op (x : GL11Op) : List A := [aI .i64 x.Kind, aI .i64 x.Of, aI .i64 x.N, aS x.Text, aI .u8 x.V.Kind, aI .i64 x.V.N, aI .i64 x.V.Re, aI .i64 x.V.Im, aI .u8 x.X.Kind, aI .i64 x.X.N, aI .i64 x.X.Re, aI .i64 x.X.Im, .t (.sl 4 (x.Vals.map c_GApiValue))]
def e_GL11Op (x : GL11Op) : A := .agg (b_GL11Op x)
structure Fv67 where
  t : T
  run : GApiObj → Option (Bool)
  ok : ∀ (a0 : GApiObj) (r : Bool), run a0 = some r → FnC Try.prog t [e_GApiObj a0] (aB r)
structure GHeapObject where
  o_ : GApiObj
  shared_ : Bool
deriving DecidableEq, Inhabited
def c_GHeapObject (x : GHeapObject) : List T := [tI .u8 x.o_.Kind, tI .i64 x.o_.Of, tS x.o_.Text, .sl 4 (x.o_.Vals.map c_GApiValue), tB x.shared_]
end Go.Proofs.Ytblikpgdepjhdaa
