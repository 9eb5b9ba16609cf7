/- Parts of the proof. -/
import Derived.Test.YtmffhifkdbfbfaaJoBase
import Derived.Test.YtmffhifkdbfbfaaJoXE
import Derived.Test.YtmffhifkdbfbfaaJoAxTab
import Derived.Lib.BufferRead
import Derived.Laws.IdiomStrings
import Derived.Laws.StructEq
import Derived.Laws.Cover3
import Derived.Laws.MakeOwn
import Derived.Laws.RangeString
import Derived.Laws.RangeAny
namespace Go.Proofs.Ytmffhifkdbfbfaa
set_option linter.unusedVariables false
universe u
section
variable {ι : Type} {β : ι → Type}
def recN (B : ((i : ι) → Option (β i)) → (i : ι) → Option (β i)) : Nat → (i : ι) → Option (β i)
  | 0, _ => none
  | n + 1, i => B (recN B n) i
open Classical in
noncomputable def fixD (B : ((i : ι) → Option (β i)) → (i : ι) → Option (β i)) (i : ι) : Option (β i) :=
  if h : ∃ n, (recN B n i).isSome = true then recN B (Classical.choose h) i else none
def Fin1 {γ : Type} (F : ((i : ι) → Option (β i)) → Option γ) : Prop :=
  ∀ g r, F g = some r → ∃ l : List ι, ∀ g', (∀ i ∈ l, ∀ x, g i = some x → g' i = some x) → F g' = some r
theorem fin_const {γ : Type} (c : Option γ) : Fin1 (β := β) (fun _ => c) := fun g r h => ⟨[], fun _ _ => h⟩
theorem fin_ask (i : ι) : Fin1 (β := β) (fun g => g i) := fun g r h => ⟨[i], fun g' hg => hg i (by simp) r h⟩
theorem fin_bind {γ δ : Type} {F : ((i : ι) → Option (β i)) → Option γ} {K : γ → ((i : ι) → Option (β i)) → Option δ} (h1 : Fin1 F) (h2 : ∀ x, Fin1 (K x)) : Fin1 (fun g => (F g).bind fun x => K x g) := fun g r h => by
  obtain ⟨x, hx, hr⟩ := Option.bind_eq_some_iff.1 h
  obtain ⟨l1, k1⟩ := h1 g x hx
  obtain ⟨l2, k2⟩ := h2 x g r hr
  refine ⟨l1 ++ l2, fun g' hg => ?_⟩
  show (F g').bind _ = _
  rw [k1 g' fun i hi => hg i (by simp [hi])]
  exact k2 g' fun i hi => hg i (by simp [hi])
theorem fin_ite {γ : Type} {p : Prop} [Decidable p] {F G : ((i : ι) → Option (β i)) → Option γ} (h1 : Fin1 F) (h2 : Fin1 G) : Fin1 (fun g => if p then F g else G g) := by
  by_cases h : p
  · simp only [if_pos h]; exact h1
  · simp only [if_neg h]; exact h2
def optCase {α γ : Type} (x : Option α) (a : γ) (f : α → γ) : γ := match x with | none => a | some y => f y
theorem fin_opt {α γ : Type} {x : Option α} {F : ((i : ι) → Option (β i)) → Option γ} {K : α → ((i : ι) → Option (β i)) → Option γ} (h1 : Fin1 F) (h2 : ∀ y, Fin1 (K y)) : Fin1 (fun g => optCase x (F g) fun y => K y g) := by
  cases x with
  | none => exact h1
  | some y => exact h2 y
theorem oc_nx {α γ : Type} {x : Option α} {a : Option γ} {f : α → Option γ} {r : γ} (hc : x = none) (h : optCase x a f = some r) : a = some r := by rw [hc] at h; exact h
theorem oc_sx {α γ : Type} {x : Option α} {y : α} {a : Option γ} {f : α → Option γ} {r : γ} (hc : x = some y) (h : optCase x a f = some r) : f y = some r := by rw [hc] at h; exact h
variable {B : ((i : ι) → Option (β i)) → (i : ι) → Option (β i)}
theorem fin_le {γ : Type} {F : ((i : ι) → Option (β i)) → Option γ} (h : Fin1 F) {g g' : (i : ι) → Option (β i)} (hg : ∀ i x, g i = some x → g' i = some x) {r : γ} (hr : F g = some r) : F g' = some r := by
  obtain ⟨l, k⟩ := h g r hr
  exact k g' fun i _ => hg i
theorem recN_step (hB : ∀ i, Fin1 (fun g => B g i)) : ∀ n i r, recN B n i = some r → recN B (n + 1) i = some r
  | 0, i, r, h => by cases h
  | n + 1, i, r, h => fin_le (hB i) (recN_step hB n) h
theorem recN_le (hB : ∀ i, Fin1 (fun g => B g i)) {n m : Nat} (hnm : n ≤ m) {i : ι} {r : β i} (h : recN B n i = some r) : recN B m i = some r := by
  induction hnm with
  | refl => exact h
  | step _ ih => exact recN_step hB _ _ _ ih
theorem fix_rec {i : ι} {r : β i} (h : fixD B i = some r) : ∃ n, recN B n i = some r := by
  unfold fixD at h
  split at h
  · exact ⟨_, h⟩
  · cases h
theorem rec_fix (hB : ∀ i, Fin1 (fun g => B g i)) {n : Nat} {i : ι} {r : β i} (h : recN B n i = some r) : fixD B i = some r := by
  have hx : ∃ n, (recN B n i).isSome = true := ⟨n, by rw [h]; rfl⟩
  unfold fixD
  rw [dif_pos hx]
  obtain ⟨r', hr'⟩ := Option.isSome_iff_exists.1 (Classical.choose_spec hx)
  rw [hr']
  have h1 := recN_le hB (Nat.le_max_left n (Classical.choose hx)) h
  have h2 := recN_le hB (Nat.le_max_right n (Classical.choose hx)) hr'
  rw [h1] at h2
  cases h2
  rfl
theorem fix_eq (hB : ∀ i, Fin1 (fun g => B g i)) (i : ι) : fixD B i = B (fixD B) i := by
  have main : ∀ r, fixD B i = some r ↔ B (fixD B) i = some r := fun r => by
    constructor
    · intro h
      obtain ⟨n, hn⟩ := fix_rec h
      cases n with
      | zero => cases hn
      | succ n => exact fin_le (hB i) (fun j x hx => rec_fix hB hx) hn
    · intro h
      obtain ⟨l, k⟩ := hB i _ _ h
      have : ∃ N, ∀ j ∈ l, ∀ x, fixD B j = some x → recN B N j = some x := by
        clear k
        induction l with
        | nil => exact ⟨0, fun j hj => by simp at hj⟩
        | cons a l ih =>
          obtain ⟨N, hN⟩ := ih
          cases ha : fixD B a with
          | none =>
            refine ⟨N, fun j hj x hx => ?_⟩
            rcases List.mem_cons.1 hj with rfl | hj
            · rw [ha] at hx; cases hx
            · exact hN j hj x hx
          | some y =>
            obtain ⟨n, hn⟩ := fix_rec ha
            refine ⟨max n N, fun j hj x hx => ?_⟩
            rcases List.mem_cons.1 hj with rfl | hj
            · rw [ha] at hx; cases hx; exact recN_le hB (Nat.le_max_left _ _) hn
            · exact recN_le hB (Nat.le_max_right _ _) (hN j hj x hx)
      obtain ⟨N, hN⟩ := this
      exact rec_fix hB (n := N + 1) (k _ hN)
  cases h : B (fixD B) i with
  | some r => exact (main r).2 h
  | none =>
    cases h' : fixD B i with
    | none => rfl
    | some r => rw [(main r).1 h'] at h; cases h
end
end Go.Proofs.Ytmffhifkdbfbfaa
namespace Go.Proofs.Ytmffhifkdbfbfaa
open Go.RowKit
set_option linter.unusedVariables false
variable {P : Program}
abbrev qn (q : Orc) : Option Bool × List Nat × Orc := (none, [], q)
abbrev qt (q : Orc) : Option Bool × List Nat × Orc := (some true, [], q)
abbrev qf (q : Orc) : Option Bool × List Nat × Orc := (some false, [], q)
abbrev qt0 := qt .no
abbrev qf0 := qf .no
theorem aN : AllP [] := trivial
theorem aC {p : Prop} {l : List Prop} (hp : p) (hl : AllP l) : AllP (p :: l) := ⟨hp, hl⟩
abbrev w64 (n : Int) : Int := IntKind.wrap .i64 n
abbrev mkS (s : List UInt8) : ByteArray := ByteArray.mk (Array.mk s)
def getI {α : Type} (xs : List α) (i : Int) : Option α := if 0 ≤ i then xs[i.toNat]? else none
abbrev tI (k : IntKind) (n : Int) : T := .v (.int k n)
abbrev tB (b : Bool) : T := .v (.bool b)
abbrev tS (s : List UInt8) : T := .v (.string (mkS s))
abbrev aI (k : IntKind) (n : Int) : A := .t (.v (.int k n))
abbrev aB (b : Bool) : A := .t (.v (.bool b))
abbrev aS (s : List UInt8) : A := .t (.v (.string (mkS s)))
abbrev aNil : A := .t (.v (.slice none 0 0))
abbrev aPnil : A := .t (.v (.pointer none))
instance (b n : Nat) : Decidable (AppOb b n) := by unfold AppOb; infer_instance
theorem ite_ok {α : Type} {p : Prop} [Decidable p] {x : Option α} {r : α} (h : (if p then x else none) = some r) : p ∧ x = some r := by
  split at h
  · exact ⟨‹p›, h⟩
  · cases h
theorem if_t {α : Type} {p : Prop} [Decidable p] {x y : Option α} {r : α} (h : (if p then x else y) = some r) (hb : decide p = true) : x = some r := by
  rw [if_pos (of_decide_eq_true hb)] at h; exact h
theorem if_f {α : Type} {p : Prop} [Decidable p] {x y : Option α} {r : α} (h : (if p then x else y) = some r) (hb : decide p = false) : y = some r := by
  rw [if_neg (of_decide_eq_false hb)] at h; exact h
theorem ib_t {α : Type} {b : Bool} {x y : Option α} {r : α} (h : (if b = true then x else y) = some r) (hb : b = true) : x = some r := by
  rw [if_pos hb] at h; exact h
theorem ib_f {α : Type} {b : Bool} {x y : Option α} {r : α} (h : (if b = true then x else y) = some r) (hb : b = false) : y = some r := by
  rw [if_neg (by rw [hb]; exact Bool.false_ne_true)] at h; exact h
theorem not_t {b : Bool} (h : b = true) : (!b) = false := by rw [h]; rfl
theorem not_f {b : Bool} (h : b = false) : (!b) = true := by rw [h]; rfl
theorem bnot_t {b : Bool} (h : (!b) = true) : b = false := by cases b <;> first | rfl | cases h
theorem bnot_f {b : Bool} (h : (!b) = false) : b = true := by cases b <;> first | rfl | cases h
theorem bind_ok {α β : Type} {x : Option α} {k : α → Option β} {r : β} (h : x.bind k = some r) : ∃ y, x = some y ∧ k y = some r := Option.bind_eq_some_iff.1 h
section
variable {α : Type} {c : α → List T} {xs ys : List α} {i : Int} {x y : α} {b : Nat}
theorem getI_nat (h : getI xs i = some x) : 0 ≤ i ∧ xs[i.toNat]? = some x := by
  unfold getI at h
  split at h
  · rename_i h0; exact ⟨h0, h⟩
  · cases h
theorem ix_ob (h : getI xs i = some x) : IxOb (xs.map c) i i.toNat (c x) := by
  obtain ⟨h0, h1⟩ := getI_nat h
  exact ⟨by omega, by rw [List.getElem?_map, h1]; rfl⟩
theorem el_ob (h : getI xs i = some x) : (xs.map c)[i.toNat]? = some (c x) := (ix_ob h).2
theorem app_ob : RowOb (xs.map c ++ ys.map c) ((xs ++ ys).map c) := (List.map_append).symm
theorem ap_ob (h : AppOb b (xs.length + ys.length)) : AppOb b ((xs.map c).length + (ys.map c).length) := by rw [List.length_map, List.length_map]; exact h
theorem ix_obx (c : α → List T) (h : getI xs i = some x) : IxOb (xs.map c) i i.toNat (c x) := ix_ob h
theorem el_obx (c : α → List T) (h : getI xs i = some x) : (xs.map c)[i.toNat]? = some (c x) := el_ob h
theorem len_obx (c : α → List T) (xs : List α) : (xs.map c).length = xs.length := List.length_map _
theorem app_obx (c : α → List T) (xs ys : List α) : RowOb (xs.map c ++ ys.map c) ((xs ++ ys).map c) := app_ob
theorem ap_obx (c : α → List T) (h : AppOb b (xs.length + ys.length)) : AppOb b ((xs.map c).length + (ys.map c).length) := ap_ob h
end
theorem loop_data (s : ByteArray) : ∀ (n i : Nat) (r : List UInt8), n = s.size - i → ByteArray.toList.loop s i r = r.reverse ++ s.data.toList.drop i
  | 0, i, r, h => by
    unfold ByteArray.toList.loop
    have : s.data.toList.length = s.size := rfl
    rw [if_neg (by omega), List.drop_eq_nil_of_le (by omega)]; simp
  | n + 1, i, r, h => by
    unfold ByteArray.toList.loop
    have hl : s.data.toList.length = s.size := rfl
    rw [if_pos (by omega), loop_data s n (i + 1) _ (by omega)]
    have hi : i < s.data.toList.length := by omega
    rw [← List.getElem_cons_drop hi]
    have : s.get! i = s.data.toList[i] := by
      show s.data[i]! = _
      rw [getElem!_pos s.data i (by simpa using hi)]; simp
    rw [this]; simp
theorem mkS_list (s : List UInt8) : (mkS s).toList = s := by
  unfold ByteArray.toList
  rw [loop_data _ _ 0 [] rfl]; simp
theorem list_beq (a b : List UInt8) : (a == b) = decide (a = b) := by
  by_cases h : a = b <;> simp [h]
theorem str_eq_ob (ty : TypeId) (a b : List UInt8) : BinOb P .eql ty (.string (mkS a)) (.string (mkS b)) (.bool (decide (a = b))) := by
  show some (Value.bool ((mkS a).toList == (mkS b).toList)) = _
  rw [mkS_list, mkS_list, list_beq]
abbrev CatOb (a b : List UInt8) : Prop := a.length + b.length ≤ 9223372036854775807
theorem mkS_app (a b : List UInt8) : mkS a ++ mkS b = mkS (a ++ b) := by
  apply ByteArray.ext
  apply Array.ext'
  simp
theorem cat_ob (ty : TypeId) {a b : List UInt8} (h : CatOb a b) : BinOb P .add ty (.string (mkS a)) (.string (mkS b)) (.string (mkS (a ++ b))) := by
  show semPure (Op.stringOp .add (mkS a) (mkS b)) = _
  unfold Op.stringOp
  have : ¬ ((((mkS a).size + (mkS b).size : Nat) : Int) > IntKind.i64.max) := by
    have h1 : (mkS a).size = a.length := rfl
    have h2 : (mkS b).size = b.length := rfl
    rw [h1, h2]
    have : IntKind.i64.max = 9223372036854775807 := rfl
    unfold CatOb at h
    omega
  simp only
  rw [if_neg this, mkS_app]; rfl
def fixQ {σ : Type} (m : Nat) (N : Nat → σ → Prop) (S : σ → St) (Q : Exit → St → Prop) : Exit → St → Prop
  | .normal, st => ∃ k x', k ≤ m ∧ N k x' ∧ Fits st (S x')
  | e, st => Q e st
theorem W_fix {σ : Type} (N : Nat → σ → Prop) (S : σ → LS) {c : Code} {Q : Exit → St → Prop} (h0 : ∀ x, ¬ N 0 x) (hn : ∀ x y, (S x).n = (S y).n)
    (h : ∀ m x, N (m + 1) x → W P c (S x).st (fixQ m N (fun x => (S x).st) Q)) (n : Nat) (x : σ) (hx : N n x) : W P (.loop c) (S x).st Q := by
  refine W_loop (σ := Nat × σ) (fun p => N p.1 p.2) (fun p => p.1) (fun p => (S p.2).st) (n, x) hx (Fits.refl _) (fun p => hn _ _) ?_
  rintro ⟨m, x⟩ hx
  cases m with
  | zero => exact (h0 x hx).elim
  | succ m =>
    refine fun C a w hP hs => wp_mono (h m x hx C a w hP hs) ?_
    rintro e a' w' ⟨st', h1, h2, h3⟩
    refine ⟨st', h1, ?_, h3⟩
    cases e with
    | normal =>
      obtain ⟨k, x', hk, hN, hf⟩ := h2
      exact ⟨(k, x'), hN, Nat.lt_succ_of_le hk, hf⟩
    | _ => exact h2
theorem W_conv {c : Code} {s s' : LS} {Q : Exit → St → Prop} (v : CV) (hx : convX v s = some s') (h : W P c s'.st Q) : W P c s.st Q := fun C a w hP hs => by
  have hf := convX_fits hx
  refine wp_mono (h C a w hP (hf.2 C a w hs)) fun e a' w' ⟨st', hn, hq, hs'⟩ => ⟨st', by rw [hn, hf.1], hq, hs'⟩
theorem W_pre {c : Code} {st st' : St} {Q : Exit → St → Prop} (hf : Fits st st') (h : W P c st' Q) : W P c st Q := fun C a w hP hs =>
  wp_mono (h C a w hP (hf.2 C a w hs)) fun e a' w' ⟨st'', hn, hq, hs'⟩ => ⟨st'', by rw [hn, hf.1], hq, hs'⟩
def subC : Code → List Nat → Code
  | c, [] => c
  | .seq a _, 0 :: l => subC a l
  | .seq _ b, 1 :: l => subC b l
  | .cond _ a _, 0 :: l => subC a l
  | .cond _ _ b, 1 :: l => subC b l
  | .block _ b, 0 :: l => subC b l
  | .loop b, 0 :: l => subC b l
  | .scope b, 0 :: l => subC b l
  | c, _ => c
def bodyC (P : Program) (f : FuncId) : Code := match P.funcs[f]? with | some fn => (match fn.body with | some c => c | none => .skip) | none => .skip
end Go.Proofs.Ytmffhifkdbfbfaa
namespace Go.Proofs.Ytmffhifkdbfbfaa
open Go.RowKit
set_option linter.unusedVariables false
variable {P : Program}
def opAt : Code → Nat → Oper
  | .region _ ops _, i => ops.toList.getD i default
  | _, _ => default
def CutR (a b n : Int) : Prop := 0 ≤ a ∧ a ≤ b ∧ b ≤ n
instance (a b n : Int) : Decidable (CutR a b n) := by unfold CutR; infer_instance
end Go.Proofs.Ytmffhifkdbfbfaa
namespace Go.Proofs.Ytmffhifkdbfbfaa
open Go.RowKit
set_option linter.unusedVariables false
variable {P : Program}
theorem quo_ob (ty : TypeId) {k : IntKind} {a b : Int} (h : b ≠ 0) : BinOb P .quo ty (.int k a) (.int k b) (.int k (k.wrap (Int.tdiv a b))) := by
  show semPure (binOp .quo ty (.int k a) (.int k b)) = _
  simp [binOp, Op.intDiv, h]; rfl
theorem rem_ob (ty : TypeId) {k : IntKind} {a b : Int} (h : b ≠ 0) : BinOb P .rem ty (.int k a) (.int k b) (.int k (Int.tmod a b)) := by
  show semPure (binOp .rem ty (.int k a) (.int k b)) = _
  simp [binOp, Op.intDiv, h]; rfl
theorem shl_ob (ty : TypeId) {k k' : IntKind} {a b : Int} (h : 0 ≤ b) : BinOb P .shl ty (.int k a) (.int k' b) (.int k (k.wrap (a * 2 ^ (min b.toNat k.bits)))) := by
  show semPure (binOp .shl ty (.int k a) (.int k' b)) = _
  have : ¬ b < 0 := by omega
  simp [binOp, Op.shift, this]; rfl
theorem shr_ob (ty : TypeId) {k k' : IntKind} {a b : Int} (h : 0 ≤ b) : BinOb P .shr ty (.int k a) (.int k' b) (.int k (a.fdiv (2 ^ (min b.toNat k.bits)))) := by
  show semPure (binOp .shr ty (.int k a) (.int k' b)) = _
  have : ¬ b < 0 := by omega
  simp [binOp, Op.shift, this]; rfl
def BytesOb (xs : List Int) : Prop := ∀ x ∈ xs, 0 ≤ x ∧ x < 256
instance (xs : List Int) : Decidable (BytesOb xs) := by unfold BytesOb; infer_instance
def bytesS (xs : List Int) : List UInt8 := xs.map fun x => UInt8.ofNat x.toNat
theorem bytesS_ob {src dst e : TypeId} {x : Operand} {o : Oper} (ho : o.op = .convert src dst x) (hs : P.underlying src = some (.slice e)) (he : P.underlying e = some (.int .u8)) (hd : P.underlying dst = some .string) (c : Int → List T) (hcc : c = fun n => [tI .u8 n]) {xs : List Int} (hb : BytesOb xs) :
    Quiet P o [.t (.sl 1 (xs.map c))] (aS (bytesS xs)) := by
  intro w M ρ _ hl hr
  have h0 := hr 0 (by simp) (by rw [← hl]; simp)
  have h1 : (opL o.op)[0]'(by rw [← hl]; simp) = x := by simp [ho, opL]
  rw [h1] at h0
  simp only [List.getElem_cons_zero] at h0
  have e0 : xs.map c = (bytesS xs).map fun b : UInt8 => [T.v (.int .u8 (b.toNat : Int))] := by
    unfold bytesS
    rw [List.map_map, hcc]
    refine List.map_congr_left fun n hn => ?_
    have := hb n hn
    simp only [Function.comp]
    have e1 : ((UInt8.ofNat n.toNat).toNat : Int) = n := by
      rw [UInt8.toNat_ofNat']; omega
    rw [e1]
  rw [e0] at h0
  generalize bytesS xs = l at h0
  refine ⟨.string ⟨l.toArray⟩, w, ?_, Below.refl _ _, .t _ _ (.v _ rfl)⟩
  unfold execOp
  simp only [ho]
  generalize ρ x = v at h0
  have h2 := rep_t h0
  have run : (convert src dst v).run P w = .ok (.string ⟨l.toArray⟩) w := by
    generalize hX : (l.map fun b : UInt8 => [T.v (.int .u8 (b.toNat : Int))]) = ys at h2
    cases h2 with
    | nil _ a cap hcm =>
      have : l = [] := by simpa using hX
      subst this
      cases a with
      | none => exact Go.Lib.run_convert_nil_bytes w src dst e cap hs he hd
      | some p => exact run_convert_bytes_back (P := P) w src dst e p cap [] hs he hd (fun j hj => by simp at hj)
    | sl _ _ b off cap c hb hM hcap hcm hk hc hrr =>
      subst hX
      have hlen : (l.map fun b : UInt8 => [T.v (.int .u8 (b.toNat : Int))]).length = l.length := by simp
      rw [hlen]
      refine run_convert_bytes_back (P := P) w src dst e _ cap l hs he hd (fun j hj => ?_)
      have hadd : (⟨b, off, none⟩ : Addr).add j = ⟨b, off + j, none⟩ := by unfold Addr.add; split <;> simp_all
      rw [hadd]
      have h3 := hc j (by simpa using hj) 0 (by omega)
      have h4 := hrr j (by simpa using hj) 0 (by simp)
      simp only [List.getElem_map, List.getElem_cons_zero] at h4
      have h5 := rep_val (st := ⟨0, fun _ => .dead, fun _ => none, fun _ => false⟩) (L := fun _ => nol) (.t _ _ h4)
      rw [Nat.mul_one, Nat.add_zero, h5] at h3
      exact h3
  simp only [Sem.run_bind, run, Result.andThen_ok, Sem.run_pure]
end Go.Proofs.Ytmffhifkdbfbfaa
namespace Go.Proofs.Ytmffhifkdbfbfaa
open Go.RowKit
set_option linter.unusedVariables false
variable {P : Program}
section
variable {α : Type} {o : Oper} {t e : TypeId} {te : TI} {x y z : Operand} {k : Nat} {xs : List α} {ka kb : IntKind} {b : Int}
end
section
variable {α : Type} {o : Oper} {t e : TypeId} {te : TI} {x y z : Operand} {k : Nat} {xs : List α} {ka kb : IntKind} {a b : Int} {s : List UInt8}
end
def eqV : Value → Value → Bool
  | .int _ a, .int _ b => decide (a = b)
  | .string s, .string u => decide (s.data.toList = u.data.toList)
  | .bool a, .bool b => a == b
  | _, _ => false
def eqL : List Value → List Value → Bool
  | [x], [y] => eqV x y
  | x :: l, y :: r => eqV x y && eqL l r
  | _, _ => true
def eqKind (P : Program) (t : TypeId) : Value → Value → Bool
  | .int k _, .int k' _ => (match P.underlying t with | some (.int _) => decide (k = k') | _ => false)
  | .string _, .string _ => (match P.underlying t with | some .string => true | _ => false)
  | .bool _, .bool _ => (match P.underlying t with | some .bool => true | _ => false)
  | _, _ => false
def eqFlat (P : Program) : Nat → List Field → List Value → List Value → Bool
  | _, [], [], [] => true
  | i, f :: fs, x :: l, y :: r => (match decide (f.name ≠ "_"), Nat.beq f.offset i, tinfo P f.type with
    | true, true, some ti => (match Nat.beq ti.size 1, ti.agg, eqKind P f.type x y with
      | true, false, true => eqFlat P (i + 1) fs l r
      | _, _, _ => false)
    | _, _, _ => false)
  | _, _, _, _ => false
def eqAll (P : Program) (t : TypeId) (xs ys : List Value) : Bool :=
  match P.underlying t with
  | some (.struct fs) => (match P.stoodInHeld t, P.eqGuardType P.depth t, xs with
    | false, false, _ :: _ => eqFlat P 0 fs.toList xs ys
    | _, _, _ => false)
  | _ => false
theorem list_beqB (a b : List UInt8) : (a == b) = decide (a = b) := by
  by_cases h : a = b
  · subst h; simp
  · simp [h]
theorem eqKind_run {t : TypeId} {x y : Value} (h : eqKind P t x y = true) (d : Nat) (w : World) : (Op.equalIn (d + 1) t x y).run P w = .ok (eqV x y) w := by
  unfold eqKind at h
  split at h
  · split at h
    · rename_i a k' b _ k'' hu
      have : _ = _ := of_decide_eq_true h
      subst this
      rw [run_equalIn_int w d t _ _ a b hu]
      rfl
    · cases h
  · split at h
    · rename_i s u _ hu
      rw [run_equalIn_string w d t s u hu]
      congr 1
      show (s.toList == u.toList) = decide (s.data.toList = u.data.toList)
      have e1 : ∀ b : ByteArray, b.toList = b.data.toList := fun b => mkS_list b.data.toList
      rw [e1, e1, list_beqB]
    · cases h
  · split at h
    · rename_i a b _ hu
      exact run_equalIn_bool' w d t a b hu
    · cases h
  · cases h
theorem part_one {t : TypeId} {ti : TI} (ht : tinfo P t = some ti) (ha : ti.agg = false) (cs : Array Value) (i : Nat) (v : Value) (hv : cs[i]? = some v) (w : World) : (part t cs i).run P w = .ok v w := by
  obtain ⟨inf, d, z, hi, hu, hz, q1, q2, q3, q4, q5, q6, q7, q8, q9⟩ := (tparts ht).ex
  unfold part
  rw [Sem.run_bind, run_isAgg hu w, Result.andThen_ok, ← q3, ha]
  simp [hv]
theorem eqFlat_run (d : Nat) (xs ys : List Value) (w : World) : ∀ (fs : List Field) (l r : List Value) (i : Nat), xs.drop i = l → ys.drop i = r → eqFlat P i fs l r = true →
    (Op.eqFields (d + 1) ⟨xs⟩ ⟨ys⟩ fs).run P w = .ok (eqL l r) w
  | [], l, r, i, hl, hr, h => by
    cases l with
    | cons => cases r <;> simp [eqFlat] at h
    | nil => cases r with
      | cons => simp [eqFlat] at h
      | nil => simp [Op.eqFields, eqL]
  | f :: fs, l, r, i, hl, hr, h => by
    cases l with
    | nil => cases r <;> simp [eqFlat] at h
    | cons x l => cases r with
      | nil => simp [eqFlat] at h
      | cons y r =>
        simp only [eqFlat] at h
        split at h
        · rename_i ti hn ho ht
          split at h
          · rename_i hs ha hk
            have hoff : f.offset = i := beq_t ho
            have hx : (⟨xs⟩ : Array Value)[f.offset]? = some x := by
              rw [hoff]; have := congrArg (·[0]?) hl; simpa using this
            have hy : (⟨ys⟩ : Array Value)[f.offset]? = some y := by
              rw [hoff]; have := congrArg (·[0]?) hr; simpa using this
            have hl' : xs.drop (i + 1) = l := by rw [← List.drop_drop, hl]; rfl
            have hr' : ys.drop (i + 1) = r := by rw [← List.drop_drop, hr]; rfl
            have ih := eqFlat_run d xs ys w fs l r (i + 1) hl' hr' h
            have hn' : f.name ≠ "_" := of_decide_eq_true hn
            simp only [Op.eqFields, if_pos hn', Sem.run_bind, part_one ht ha _ _ _ hx, part_one ht ha _ _ _ hy, Result.andThen_ok, eqKind_run hk]
            have key : eqL (x :: l) (y :: r) = (eqV x y && eqL l r) := by
              cases l with
              | nil => cases r with
                | nil => simp [eqL]
                | cons => cases fs <;> simp [eqFlat] at h
              | cons => simp [eqL]
            rw [key]
            cases eqV x y with
            | false => simp
            | true => simpa using ih
          · cases h
        · cases h
theorem rep_vals {w : World} {M : Nat → Prop} {xs : List Value} {v : Value} (h : RepF w M (.agg (xs.map A.v)) v) : v = .agg ⟨xs⟩ := by
  cases h with
  | agg _ vs hs h1 hr =>
    congr 1
    refine Array.ext (by simpa using hs) fun i h1' h2' => ?_
    have := hr i (by simpa using h2')
    simp only [List.getElem_map] at this
    rw [rep_val this]
    simp
theorem equal_run {t : TypeId} {xs ys : List Value} (h : eqAll P t xs ys = true) (w : World) : (Op.equalIn 10000 t (.agg ⟨xs⟩) (.agg ⟨ys⟩)).run P w = .ok (eqL xs ys) w ∧ P.eqGuardType P.depth t = false := by
  unfold eqAll at h
  split at h
  · rename_i fs hu
    split at h
    · rename_i x l hst hg
      have hf : P.fieldsOf t = fs := by simp [Program.fieldsOf, hu]
      refine ⟨?_, hg⟩
      rw [run_equalIn_struct w 9999 t _ _ (by rw [hf]; exact hu) hst, hf]
      exact eqFlat_run 9998 _ _ w _ _ _ 0 rfl rfl h
    · cases h
  · cases h
theorem eqA_ob {o : Oper} {t : TypeId} {x y : Operand} {hh : Option Operand} {ne : Bool} {xs ys : List Value} {e : Bool} (ho : ∃ q, o.op = .binOp (cond ne .neq .eql) t x y q) (h : eqAll P t xs ys = true) (he : eqL xs ys = e) :
    Quiet P o [.agg (xs.map A.v), .agg (ys.map A.v)] (aB (cond ne (!e) e)) := by
  intro w M ρ _ hl hr
  obtain ⟨q, ho⟩ := ho
  have h0 := hr 0 (by simp) (by rw [ho]; simp [opL])
  have h1 := hr 1 (by simp) (by rw [ho]; simp [opL])
  have e0 : (opL o.op)[0]'(by rw [ho]; simp [opL]) = x := by simp [ho, opL]
  have e1 : (opL o.op)[1]'(by rw [ho]; simp [opL]) = y := by simp [ho, opL]
  rw [e0] at h0; rw [e1] at h1
  have v0 : ρ x = .agg ⟨xs⟩ := rep_vals h0
  have v1 : ρ y = .agg ⟨ys⟩ := rep_vals h1
  obtain ⟨hrun, hg⟩ := equal_run h w
  subst he
  cases ne with
  | false =>
    refine ⟨.bool (eqL xs ys), w, ?_, Below.refl _ _, .t _ _ (.v _ rfl)⟩
    unfold execOp
    simp only [ho, v0, v1, cond_false, Sem.run_bind, run_eqGuard_agg w _ t x y _ _ hg, Result.andThen_ok, run_eql_struct, hrun, Sem.run_pure]
  | true =>
    refine ⟨.bool (!eqL xs ys), w, ?_, Below.refl _ _, .t _ _ (.v _ rfl)⟩
    unfold execOp
    simp only [ho, v0, v1, cond_true, Sem.run_bind, run_eqGuard_agg w _ t x y _ _ hg, Result.andThen_ok, run_neq_struct, hrun, Sem.run_pure]
theorem call2_run {o : Oper} {c : Call} {b : Builtin} (ho : o.op = .call c) (hc : c.callee = .builtin b) {x y : Operand} (hxy : c.args = #[x, y]) (ρ : Operand → Value) (w : World) :
    ∃ cs, (execOp ρ o).run P w = (builtin b c.argTypes o.type cs #[ρ x, ρ y]).run P w := by
  refine ⟨c.args.map (fun | .const _ => true | _ => false), ?_⟩
  unfold execOp
  simp only [ho, resolve, hc, Sem.run_bind, Sem.run_pure, Result.andThen_ok, invoke]
  rw [hxy, show (#[x, y] : Array Operand).map ρ = #[ρ x, ρ y] by simp]
  have e : ∀ f g : Operand → Bool, (∀ z, f z = g z) → f = g := fun f g h => funext h
  refine congrArg (fun q => (builtin b c.argTypes o.type (Array.map q #[x, y]) #[ρ x, ρ y]).run P w) (e _ _ fun z => ?_)
  cases z <;> rfl
theorem two_vals {o : Oper} {c : Call} {b : Builtin} (ho : o.op = .call c) (hc : c.callee = .builtin b) {x y : Operand} (hxy : c.args = #[x, y]) {w : World} {M : Nat → Prop} {ρ : Operand → Value} {p q : A} (hl : [p, q].length = (opL o.op).length)
    (hr : ∀ i (hi : i < [p, q].length) (hi' : i < (opL o.op).length), RepF w M ([p, q][i]) (ρ ((opL o.op)[i]))) : RepF w M p (ρ x) ∧ RepF w M q (ρ y) := by
  have hL : opL o.op = [x, y] := by rw [ho]; simp [opL, hc, hxy]
  have h0 := hr 0 (by simp) (by rw [hL]; simp)
  have h1 := hr 1 (by simp) (by rw [hL]; simp)
  simp only [hL] at h0 h1
  exact ⟨h0, h1⟩
theorem min_ob {o : Oper} {k : IntKind} {a b : Int} {c : Call} (ho : o.op = .call c) (hc : c.callee = .builtin .min) {x y : Operand} (hxy : c.args = #[x, y]) : Quiet P o [aI k a, aI k b] (aI k (if b < a then b else a)) := by
  intro w M ρ _ hl hr
  obtain ⟨h0, h1⟩ := two_vals ho hc hxy hl hr
  obtain ⟨cs, e⟩ := call2_run (P := P) ho hc hxy ρ w
  refine ⟨.int k (if b < a then b else a), w, ?_, Below.refl _ _, .t _ _ (.v _ rfl)⟩
  rw [e, rep_val h0, rep_val h1]
  simp [builtin, Builtin.min_, Builtin.min2]
theorem max_ob {o : Oper} {k : IntKind} {a b : Int} {c : Call} (ho : o.op = .call c) (hc : c.callee = .builtin .max) {x y : Operand} (hxy : c.args = #[x, y]) : Quiet P o [aI k a, aI k b] (aI k (if a < b then b else a)) := by
  intro w M ρ _ hl hr
  obtain ⟨h0, h1⟩ := two_vals ho hc hxy hl hr
  obtain ⟨cs, e⟩ := call2_run (P := P) ho hc hxy ρ w
  refine ⟨.int k (if a < b then b else a), w, ?_, Below.refl _ _, .t _ _ (.v _ rfl)⟩
  rw [e, rep_val h0, rep_val h1]
  simp [builtin, Builtin.max_, Builtin.max2]
end Go.Proofs.Ytmffhifkdbfbfaa
namespace Go.Proofs.Ytmffhifkdbfbfaa
open Go.RowKit
set_option linter.unusedVariables false
variable {P : Program}
theorem put_same (a : Act) (t : Nat) : a.put (some t) (a.tmps.getD t undef) = a := by
  obtain ⟨tm, df⟩ := a
  simp only [Act.put]
  congr 1
  refine Array.ext (by simp) fun i h1 h2 => ?_
  rw [Array.getElem_setIfInBounds]
  split
  · rename_i e
    subst e
    simp [Array.getD, h2]
  · rfl
theorem W_re {s : LS} {c : Code} {Q : Exit → St → Prop} (t : Nat) (hlt : t < s.n)
    (h : ∀ (L : Nat → Loc) (w : World) (M : Nat → Prop) (v : Value), RepA s.st L w M (s.st.env t) v → ∃ x, RepA s.st L w M x v ∧ W P c (s.put (some t) x).st Q) : W P c s.st Q := by
  intro C a w hP ⟨L, hs⟩
  obtain ⟨x, hx, hW⟩ := h L w _ _ (hs.env t)
  have h1 := hs.put (some t) (fun q hq => by cases hq; exact hlt) hx
  rw [put_same] at h1
  have := hW C a w hP ⟨L, by rw [put_st]; exact h1⟩
  refine Code.wp_mono (fun e a' w' ⟨st', h1, h2, h3⟩ => ⟨st', h1, h2, h3⟩) this
theorem W_case {s : LS} {c : Code} {Q : Exit → St → Prop} (t k : Nat) (ht : lkE s.es t = .t (.sl k [])) (hlt : Nat.blt t s.n = true)
    (h : ∀ ad cap, cap ≤ maxLen → W P c (s.put (some t) (.t (.v (.slice ad 0 cap)))).st Q) : W P c s.st Q :=
  W_re t (by simpa using hlt) fun L w M v hr => by
    have hr' : RepA s.st L w M (.t (.sl k [])) v := by rw [← ht]; exact hr
    have := rep_t hr'
    cases this with
    | nil _ ad cap hcm => exact ⟨_, .t _ _ (.v _ rfl), h ad cap hcm⟩
    | sl _ _ b off cap c hb hM hcap hcm hk hc hrr => exact ⟨_, .t _ _ (.v _ rfl), h _ cap hcm⟩
theorem W_back {s : LS} {c : Code} {Q : Exit → St → Prop} (t k : Nat) (ad : Option Addr) (cap : Nat) (ht : lkE s.es t = .t (.v (.slice ad 0 cap))) (hlt : Nat.blt t s.n = true) (hcm : cap ≤ maxLen)
    (h : W P c (s.put (some t) (.t (.sl k []))).st Q) : W P c s.st Q :=
  W_re t (by simpa using hlt) fun L w M v hr => by
    have hr' : RepA s.st L w M (.t (.v (.slice ad 0 cap))) v := by rw [← ht]; exact hr
    have := rep_val hr'
    subst this
    exact ⟨_, .t _ _ (.nil k ad cap hcm), h⟩
theorem nil_args {o : Oper} {op : BinOp} {t : TypeId} {x y : Operand} (ho : ∃ q, o.op = .binOp op t x y q) {w : World} {M : Nat → Prop} {ρ : Operand → Value} {p q : A} (hl : [p, q].length = (opL o.op).length)
    (hr : ∀ i (hi : i < [p, q].length) (hi' : i < (opL o.op).length), RepF w M ([p, q][i]) (ρ ((opL o.op)[i]))) : RepF w M p (ρ x) ∧ RepF w M q (ρ y) := by
  obtain ⟨_, ho⟩ := ho
  have hL : opL o.op = [x, y] := by rw [ho]; rfl
  have h0 := hr 0 (by simp) (by rw [hL]; simp)
  have h1 := hr 1 (by simp) (by rw [hL]; simp)
  simp only [hL] at h0 h1
  exact ⟨h0, h1⟩
theorem guard_slice (op : BinOp) (t : TypeId) (x y : Operand) (a : Option Addr) (n c : Nat) (w : World) : (eqGuard op t x y (.slice a n c) (.slice none 0 0)).run P w = .ok () w := by
  cases op <;> simp [eqGuard]
theorem nilcmp_run {o : Oper} {t e : TypeId} {x y : Operand} {ne : Bool} (ho : ∃ q, o.op = .binOp (cond ne .neq .eql) t x y q) (ht : P.underlying t = some (.slice e)) (ρ : Operand → Value) (a : Option Addr) (n c : Nat) (hx : ρ x = .slice a n c) (hy : ρ y = .slice none 0 0) (w : World) :
    (execOp ρ o).run P w = .ok (.value (.bool (cond ne (!a.isNone) a.isNone))) w := by
  obtain ⟨q, ho⟩ := ho
  cases ne with
  | false =>
    unfold execOp
    simp only [ho, hx, hy, cond_false, Sem.run_bind, guard_slice, Result.andThen_ok, binOp, run_equal_slice_nil w t e a n c ht, Sem.run_pure]
  | true =>
    unfold execOp
    simp only [ho, hx, hy, cond_true, Sem.run_bind, guard_slice, Result.andThen_ok, binOp, run_equal_slice_nil w t e a n c ht, Sem.run_pure]
theorem nilt_f {o : Oper} {t e : TypeId} {x y : Operand} {ne : Bool} (ho : ∃ q, o.op = .binOp (cond ne .neq .eql) t x y q) (ht : P.underlying t = some (.slice e)) {k : Nat} {xs : List (List T)} (hne : xs ≠ []) : Quiet P o [.t (.sl k xs), aNil] (aB ne) := by
  intro w M ρ _ hl hr
  obtain ⟨h0, h1⟩ := nil_args ho hl hr
  have hy := rep_val h1
  have h0 := rep_t h0
  generalize hv : ρ x = v at h0
  cases h0 with
  | nil => exact absurd rfl hne
  | sl _ _ b off cap c hb hM hcap hcm hk hc hrr =>
    refine ⟨_, w, nilcmp_run ho ht ρ _ _ _ hv hy w, Below.refl _ _, ?_⟩
    cases ne <;> exact .t _ _ (.v _ rfl)
theorem nilt_v {o : Oper} {t e : TypeId} {x y : Operand} {ne : Bool} (ho : ∃ q, o.op = .binOp (cond ne .neq .eql) t x y q) (ht : P.underlying t = some (.slice e)) {ad : Option Addr} {cap : Nat} : Quiet P o [.t (.v (.slice ad 0 cap)), aNil] (aB (cond ne (!ad.isNone) ad.isNone)) := by
  intro w M ρ _ hl hr
  obtain ⟨h0, h1⟩ := nil_args ho hl hr
  exact ⟨_, w, nilcmp_run ho ht ρ _ _ _ (rep_val h0) (rep_val h1) w, Below.refl _ _, .t _ _ (.v _ rfl)⟩
def MakeOb (bytes : Nat) (n : Int) : Prop := 0 ≤ n ∧ bytes * n ≤ 281474976710656 ∧ n ≤ maxLen
instance (b : Nat) (n : Int) : Decidable (MakeOb b n) := by unfold MakeOb; infer_instance
end Go.Proofs.Ytmffhifkdbfbfaa
namespace Go.Proofs.Ytmffhifkdbfbfaa
open Go.RowKit
set_option linter.unusedVariables false
theorem wrap64 {n : Int} (h0 : -9223372036854775808 ≤ n) (h1 : n ≤ 9223372036854775807) : w64 n = n := by
  show IntKind.wrap .i64 n = n
  rw [IntKind.wrap_i64]; omega
theorem getI_at {α : Type} {xs : List α} {i : Int} (h0 : 0 ≤ i) (h : i < xs.length) : getI xs i = some (xs[i.toNat]'(by omega)) := by
  unfold getI
  rw [if_pos h0, List.getElem?_eq_getElem]
theorem getI_nat' {α : Type} {xs : List α} {i : Nat} (h : i < xs.length) : getI xs (i : Int) = some (xs[i]) := by
  rw [getI_at (by omega) (by omega)]; simp
theorem obind_some {α β : Type} {x : α} {k : α → Option β} : (some x).bind k = k x := rfl
end Go.Proofs.Ytmffhifkdbfbfaa
