/- Parts of the proof. -/
import Derived.Test.YtcmpcbpdnaodmaaDoorLsBase
import Derived.Test.YtcmpcbpdnaodmaaDoorLsXE
import Derived.Test.YtcmpcbpdnaodmaaDoorLsAxTab
import Derived.Lib.BufferRead
import Derived.Laws.IdiomStrings
import Derived.Laws.StructEq
import Derived.Laws.Cover3
import Derived.Laws.MakeOwn
import Derived.Laws.RangeString
import Derived.Laws.RangeAny
namespace Go.Proofs.YtcmpcbpdnaodmaaDoor
set_option linter.unusedVariables false
universe u
section
variable {ι : Type} {β : ι → Type}
def recN (B : ((i : ι) → Option (β i)) → (i : ι) → Option (β i)) : Nat → (i : ι) → Option (β i)
  | 0, _ => none
  | n + 1, i => B (recN B n) i
def bigN : Nat := 1152921504606846976
open Classical in
noncomputable def fixD (B : ((i : ι) → Option (β i)) → (i : ι) → Option (β i)) (i : ι) : Option (β i) :=
  match recN B bigN i with
  | some r => some r
  | none => if h : ∃ n, (recN B n i).isSome = true then recN B (Classical.choose h) i else none
def Fin1 {γ : Type} (F : ((i : ι) → Option (β i)) → Option γ) : Prop :=
  ∀ g r, F g = some r → ∃ l : List ι, ∀ g', (∀ i ∈ l, ∀ x, g i = some x → g' i = some x) → F g' = some r
theorem fin_const {γ : Type} (c : Option γ) : Fin1 (β := β) (fun _ => c) := fun g r h => ⟨[], fun _ _ => h⟩
theorem fin_ask (i : ι) : Fin1 (β := β) (fun g => g i) := fun g r h => ⟨[i], fun g' hg => hg i (by simp) r h⟩
theorem fin_bind {γ δ : Type} {F : ((i : ι) → Option (β i)) → Option γ} {K : γ → ((i : ι) → Option (β i)) → Option δ} (h1 : Fin1 F) (h2 : ∀ x, Fin1 (K x)) : Fin1 (fun g => (F g).bind fun x => K x g) := fun g r h => by
  obtain ⟨x, hx, hr⟩ := Option.bind_eq_some_iff.1 h
  obtain ⟨l1, k1⟩ := h1 g x hx
  obtain ⟨l2, k2⟩ := h2 x g r hr
  refine ⟨l1 ++ l2, fun g' hg => ?_⟩
  show (F g').bind _ = _
  rw [k1 g' fun i hi => hg i (by simp [hi])]
  exact k2 g' fun i hi => hg i (by simp [hi])
variable {B : ((i : ι) → Option (β i)) → (i : ι) → Option (β i)}
theorem fin_le {γ : Type} {F : ((i : ι) → Option (β i)) → Option γ} (h : Fin1 F) {g g' : (i : ι) → Option (β i)} (hg : ∀ i x, g i = some x → g' i = some x) {r : γ} (hr : F g = some r) : F g' = some r := by
  obtain ⟨l, k⟩ := h g r hr
  exact k g' fun i _ => hg i
theorem recN_step (hB : ∀ i, Fin1 (fun g => B g i)) : ∀ n i r, recN B n i = some r → recN B (n + 1) i = some r
  | 0, i, r, h => by cases h
  | n + 1, i, r, h => fin_le (hB i) (recN_step hB n) h
theorem recN_le (hB : ∀ i, Fin1 (fun g => B g i)) {n m : Nat} (hnm : n ≤ m) {i : ι} {r : β i} (h : recN B n i = some r) : recN B m i = some r := by
  induction hnm with
  | refl => exact h
  | step _ ih => exact recN_step hB _ _ _ ih
theorem fix_rec {i : ι} {r : β i} (h : fixD B i = some r) : ∃ n, recN B n i = some r := by
  unfold fixD at h
  split at h
  · rename_i x hx
    exact ⟨bigN, hx.trans h⟩
  · split at h
    · exact ⟨_, h⟩
    · cases h
theorem rec_fix (hB : ∀ i, Fin1 (fun g => B g i)) {n : Nat} {i : ι} {r : β i} (h : recN B n i = some r) : fixD B i = some r := by
  have hx : ∃ n, (recN B n i).isSome = true := ⟨n, by rw [h]; rfl⟩
  have same : ∀ m r', recN B m i = some r' → r' = r := fun m r' hm => by
    have h1 := recN_le hB (Nat.le_max_left n m) h
    have h2 := recN_le hB (Nat.le_max_right n m) hm
    rw [h1] at h2
    cases h2
    rfl
  unfold fixD
  split
  · rename_i x hx
    rw [same _ _ hx]
  · rw [dif_pos hx]
    obtain ⟨r', hr'⟩ := Option.isSome_iff_exists.1 (Classical.choose_spec hx)
    rw [hr', same _ _ hr']
theorem fix_eq (hB : ∀ i, Fin1 (fun g => B g i)) (i : ι) : fixD B i = B (fixD B) i := by
  have main : ∀ r, fixD B i = some r ↔ B (fixD B) i = some r := fun r => by
    constructor
    · intro h
      obtain ⟨n, hn⟩ := fix_rec h
      cases n with
      | zero => cases hn
      | succ n => exact fin_le (hB i) (fun j x hx => rec_fix hB hx) hn
    · intro h
      obtain ⟨l, k⟩ := hB i _ _ h
      have : ∃ N, ∀ j ∈ l, ∀ x, fixD B j = some x → recN B N j = some x := by
        clear k
        induction l with
        | nil => exact ⟨0, fun j hj => by simp at hj⟩
        | cons a l ih =>
          obtain ⟨N, hN⟩ := ih
          cases ha : fixD B a with
          | none =>
            refine ⟨N, fun j hj x hx => ?_⟩
            rcases List.mem_cons.1 hj with rfl | hj
            · rw [ha] at hx; cases hx
            · exact hN j hj x hx
          | some y =>
            obtain ⟨n, hn⟩ := fix_rec ha
            refine ⟨max n N, fun j hj x hx => ?_⟩
            rcases List.mem_cons.1 hj with rfl | hj
            · rw [ha] at hx; cases hx; exact recN_le hB (Nat.le_max_left _ _) hn
            · exact recN_le hB (Nat.le_max_right _ _) (hN j hj x hx)
      obtain ⟨N, hN⟩ := this
      exact rec_fix hB (n := N + 1) (k _ hN)
  cases h : B (fixD B) i with
  | some r => exact (main r).2 h
  | none =>
    cases h' : fixD B i with
    | none => rfl
    | some r => rw [(main r).1 h'] at h; cases h
attribute [irreducible] fixD
end
end Go.Proofs.YtcmpcbpdnaodmaaDoor
namespace Go.Proofs.YtcmpcbpdnaodmaaDoor
open Go.RowKit
set_option linter.unusedVariables false
variable {P : Program}
abbrev w64 (n : Int) : Int := IntKind.wrap .i64 n
abbrev mkS (s : List UInt8) : ByteArray := ByteArray.mk (Array.mk s)
def getI {α : Type} (xs : List α) (i : Int) : Option α := if 0 ≤ i then xs[i.toNat]? else none
abbrev tI (k : IntKind) (n : Int) : T := .v (.int k n)
abbrev tS (s : List UInt8) : T := .v (.string (mkS s))
abbrev aI (k : IntKind) (n : Int) : A := .t (.v (.int k n))
abbrev aB (b : Bool) : A := .t (.v (.bool b))
abbrev aS (s : List UInt8) : A := .t (.v (.string (mkS s)))
instance (b n : Nat) : Decidable (AppOb b n) := by unfold AppOb; infer_instance
theorem bind_ok {α β : Type} {x : Option α} {k : α → Option β} {r : β} (h : x.bind k = some r) : ∃ y, x = some y ∧ k y = some r := Option.bind_eq_some_iff.1 h
section
variable {α : Type} {c : α → List T} {xs ys : List α} {i : Int} {x y : α} {b : Nat}
theorem getI_nat (h : getI xs i = some x) : 0 ≤ i ∧ xs[i.toNat]? = some x := by
  unfold getI at h
  split at h
  · rename_i h0; exact ⟨h0, h⟩
  · cases h
theorem ix_ob (h : getI xs i = some x) : IxOb (xs.map c) i i.toNat (c x) := by
  obtain ⟨h0, h1⟩ := getI_nat h
  exact ⟨by omega, by rw [List.getElem?_map, h1]; rfl⟩
theorem sx_ob {s : List UInt8} {b : UInt8} (h : getI s i = some b) : SxOb (mkS s) i i.toNat b := by
  obtain ⟨h0, h1⟩ := getI_nat h
  refine ⟨by omega, ?_⟩
  obtain ⟨hl, rfl⟩ := List.getElem?_eq_some_iff.1 h1
  exact getElem?_pos (c := mkS s) (i := i.toNat) hl
theorem app_ob : RowOb (xs.map c ++ ys.map c) ((xs ++ ys).map c) := (List.map_append).symm
theorem ap_ob (h : AppOb b (xs.length + ys.length)) : AppOb b ((xs.map c).length + (ys.map c).length) := by rw [List.length_map, List.length_map]; exact h
theorem ap0_ob (h : AppOb b ys.length) : AppOb b (ys.map c).length := by rw [List.length_map]; exact h
theorem row_rfl (x : List (List T)) : RowOb x x := rfl
theorem ix_obx (c : α → List T) (h : getI xs i = some x) : IxOb (xs.map c) i i.toNat (c x) := ix_ob h
theorem app_obx (c : α → List T) (xs ys : List α) : RowOb (xs.map c ++ ys.map c) ((xs ++ ys).map c) := app_ob
theorem ap_obx (c : α → List T) (h : AppOb b (xs.length + ys.length)) : AppOb b ((xs.map c).length + (ys.map c).length) := ap_ob h
theorem ap0_obx (c : α → List T) (h : AppOb b ys.length) : AppOb b (ys.map c).length := ap0_ob h
end
theorem loop_data (s : ByteArray) : ∀ (n i : Nat) (r : List UInt8), n = s.size - i → ByteArray.toList.loop s i r = r.reverse ++ s.data.toList.drop i
  | 0, i, r, h => by
    unfold ByteArray.toList.loop
    have : s.data.toList.length = s.size := rfl
    rw [if_neg (by omega), List.drop_eq_nil_of_le (by omega)]; simp
  | n + 1, i, r, h => by
    unfold ByteArray.toList.loop
    have hl : s.data.toList.length = s.size := rfl
    rw [if_pos (by omega), loop_data s n (i + 1) _ (by omega)]
    have hi : i < s.data.toList.length := by omega
    rw [← List.getElem_cons_drop hi]
    have : s.get! i = s.data.toList[i] := by
      show s.data[i]! = _
      rw [getElem!_pos s.data i (by simpa using hi)]; simp
    rw [this]; simp
theorem mkS_list (s : List UInt8) : (mkS s).toList = s := by
  unfold ByteArray.toList
  rw [loop_data _ _ 0 [] rfl]; simp
theorem list_beq (a b : List UInt8) : (a == b) = decide (a = b) := by
  by_cases h : a = b <;> simp [h]
theorem str_eq_ob (ty : TypeId) (a b : List UInt8) : BinOb P .eql ty (.string (mkS a)) (.string (mkS b)) (.bool (decide (a = b))) := by
  show some (Value.bool ((mkS a).toList == (mkS b).toList)) = _
  rw [mkS_list, mkS_list, list_beq]
theorem str_ne_ob (ty : TypeId) (a b : List UInt8) : BinOb P .neq ty (.string (mkS a)) (.string (mkS b)) (.bool (!decide (a = b))) := by
  show some (Value.bool (!((mkS a).toList == (mkS b).toList))) = _
  rw [mkS_list, mkS_list, list_beq]
theorem str_lt_ob (ty : TypeId) (a b : List UInt8) : BinOb P .lss ty (.string (mkS a)) (.string (mkS b)) (.bool (Op.bytesLess a b)) := by
  show some (Value.bool (Op.bytesLess (mkS a).toList (mkS b).toList)) = _
  rw [mkS_list, mkS_list]
abbrev CatOb (a b : List UInt8) : Prop := a.length + b.length ≤ 9223372036854775807
theorem mkS_app (a b : List UInt8) : mkS a ++ mkS b = mkS (a ++ b) := by
  apply ByteArray.ext
  apply Array.ext'
  simp
theorem cat_ob (ty : TypeId) {a b : List UInt8} (h : CatOb a b) : BinOb P .add ty (.string (mkS a)) (.string (mkS b)) (.string (mkS (a ++ b))) := by
  show semPure (Op.stringOp .add (mkS a) (mkS b)) = _
  unfold Op.stringOp
  have : ¬ ((((mkS a).size + (mkS b).size : Nat) : Int) > IntKind.i64.max) := by
    have h1 : (mkS a).size = a.length := rfl
    have h2 : (mkS b).size = b.length := rfl
    rw [h1, h2]
    have : IntKind.i64.max = 9223372036854775807 := rfl
    unfold CatOb at h
    omega
  simp only
  rw [if_neg this, mkS_app]; rfl
def fixQ {σ : Type} (m : Nat) (N : Nat → σ → Prop) (S : σ → St) (Q : Exit → St → Prop) : Exit → St → Prop
  | .normal, st => ∃ k x', k ≤ m ∧ N k x' ∧ Fits st (S x')
  | e, st => Q e st
theorem W_fix {σ : Type} (N : Nat → σ → Prop) (S : σ → LS) {c : Code} {Q : Exit → St → Prop} (h0 : ∀ x, ¬ N 0 x) (hn : ∀ x y, (S x).n = (S y).n)
    (h : ∀ m x, N (m + 1) x → W P c (S x).st (fixQ m N (fun x => (S x).st) Q)) (n : Nat) (x : σ) (hx : N n x) : W P (.loop c) (S x).st Q := by
  refine W_loop (σ := Nat × σ) (fun p => N p.1 p.2) (fun p => p.1) (fun p => (S p.2).st) (n, x) hx (Fits.refl _) (fun p => hn _ _) ?_
  rintro ⟨m, x⟩ hx
  cases m with
  | zero => exact (h0 x hx).elim
  | succ m =>
    refine fun C a w hP hs => wp_mono (h m x hx C a w hP hs) ?_
    rintro e a' w' ⟨st', h1, h2, h3⟩
    refine ⟨st', h1, ?_, h3⟩
    cases e with
    | normal =>
      obtain ⟨k, x', hk, hN, hf⟩ := h2
      exact ⟨(k, x'), hN, Nat.lt_succ_of_le hk, hf⟩
    | _ => exact h2
theorem W_pre {c : Code} {st st' : St} {Q : Exit → St → Prop} (hf : Fits st st') (h : W P c st' Q) : W P c st Q := fun C a w hP hs =>
  wp_mono (h C a w hP (hf.2 C a w hs)) fun e a' w' ⟨st'', hn, hq, hs'⟩ => ⟨st'', by rw [hn, hf.1], hq, hs'⟩
def bodyC (P : Program) (f : FuncId) : Code := match P.funcs[f]? with | some fn => (match fn.body with | some c => c | none => .skip) | none => .skip
end Go.Proofs.YtcmpcbpdnaodmaaDoor
namespace Go.Proofs.YtcmpcbpdnaodmaaDoor
open Go.RowKit
set_option linter.unusedVariables false
variable {P : Program}
def CutR (a b n : Int) : Prop := 0 ≤ a ∧ a ≤ b ∧ b ≤ n
instance (a b n : Int) : Decidable (CutR a b n) := by unfold CutR; infer_instance
def cutL {α : Type} (xs : List α) (a b : Int) : List α := (xs.drop a.toNat).take (b - a).toNat
theorem cutL_map {α β : Type} (f : α → β) (xs : List α) (a b : Int) : (cutL xs a b).map f = cutL (xs.map f) a b := by
  unfold cutL; rw [List.map_take, List.map_drop]
def lowA (k : IntKind) (low : Option Operand) (a : Int) : List A := match low with | some _ => [aI k a] | none => []
theorem bound_run (k : IntKind) (a : Int) (y : Nat) (c : BoundsCode) (w : World) (h : 0 ≤ a ∧ a ≤ y) : (Instr.sliceBound (.int k a) y c).run P w = .ok a.toNat w := by
  unfold Instr.sliceBound
  simp [asIntOf, h]
theorem rep_int {w : World} {M : Nat → Prop} {k : IntKind} {a : Int} {v : Value} (h : RepF w M (aI k a) v) : v = .int k a := rep_val h
theorem bounds_run (sl : Bool) (len cap : Nat) (low high : Option Value) (ka kb : IntKind) (a b : Int) (w : World) (hR : CutR a b len) (hc : len ≤ cap) (hl : low = none ∧ a = 0 ∨ low = some (.int ka a)) (hh : high = none ∧ b = len ∨ high = some (.int kb b)) :
    (Instr.sliceBounds sl len cap low high none).run P w = .ok (a.toNat, b.toNat, cap) w := by
  obtain ⟨h1, h2, h3⟩ := hR
  unfold Instr.sliceBounds
  rcases hh with ⟨rfl, rfl⟩ | rfl
  · rcases hl with ⟨rfl, rfl⟩ | rfl
    · simp
    · simp [bound_run (P := P) ka a len _ w ⟨h1, by omega⟩]
  · rw [Sem.run_bind]
    simp only [Sem.run_pure, Result.andThen_ok]
    rw [Sem.run_bind, bound_run kb b cap _ w ⟨by omega, by omega⟩]
    simp only [Result.andThen_ok]
    rcases hl with ⟨rfl, rfl⟩ | rfl
    · simp
    · simp [bound_run (P := P) ka a b.toNat _ w ⟨h1, by omega⟩]
theorem low_rep {w : World} {M : Nat → Prop} {ρ : Operand → Value} {low : Option Operand} {k : IntKind} {a : Int} (h0 : low = none → a = 0) (h : ∀ x, low = some x → RepF w M (aI k a) (ρ x)) :
    low.map ρ = none ∧ a = 0 ∨ low.map ρ = some (.int k a) := by
  cases low with
  | none => exact .inl ⟨rfl, h0 rfl⟩
  | some x => exact .inr (by rw [Option.map_some, rep_int (h x rfl)])
theorem high_rep {w : World} {M : Nat → Prop} {ρ : Operand → Value} {high : Option Operand} {k : IntKind} {b : Int} {n : Nat} (h0 : high = none → b = n) (h : ∀ x, high = some x → RepF w M (aI k b) (ρ x)) :
    high.map ρ = none ∧ b = n ∨ high.map ρ = some (.int k b) := by
  cases high with
  | none => exact .inl ⟨rfl, h0 rfl⟩
  | some x => exact .inr (by rw [Option.map_some, rep_int (h x rfl)])
theorem slice_args {o : Oper} {t : TypeId} {x : Operand} {low high : Option Operand} (ho : o.op = .slice t x low high none) {w : World} {M : Nat → Prop} {ρ : Operand → Value} {X : A} {ka kb : IntKind} {a b : Int}
    (hl : (X :: (lowA ka low a ++ lowA kb high b)).length = (opL o.op).length) (h : ∀ i (hi : i < (X :: (lowA ka low a ++ lowA kb high b)).length) (hi' : i < (opL o.op).length), RepF w M ((X :: (lowA ka low a ++ lowA kb high b))[i]) (ρ ((opL o.op)[i]))) :
    RepF w M X (ρ x) ∧ (∀ y, low = some y → RepF w M (aI ka a) (ρ y)) ∧ (∀ y, high = some y → RepF w M (aI kb b) (ρ y)) := by
  have ho' : opL o.op = x :: (low.toList ++ (high.toList ++ [])) := by rw [ho]; rfl
  generalize hL : opL o.op = L at hl h ho'
  subst ho'
  refine ⟨h 0 (by simp) (by simp), fun y hy => ?_, fun y hy => ?_⟩
  · subst hy
    exact h 1 (by simp [lowA]) (by simp)
  · subst hy
    cases low with
    | none => exact h 1 (by simp [lowA]) (by simp)
    | some z => exact h 2 (by simp [lowA]) (by simp)
theorem extract_mkS (s : List UInt8) (a b : Int) (h : CutR a b s.length) : (mkS s).extract a.toNat b.toNat = mkS (cutL s a b) := by
  apply ByteArray.ext
  apply Array.ext'
  obtain ⟨h1, h2, h3⟩ := h
  rw [ByteArray.data_extract]
  simp only [Array.toList_extract, cutL]
  rw [List.extract_eq_take_drop]
  congr 1
  omega
theorem cutS_ob {o : Oper} {t : TypeId} {x : Operand} {low high : Option Operand} (ho : o.op = .slice t x low high none) (ht : P.underlying t = some .string) {s : List UInt8} {ka kb : IntKind} {a b : Int} (hR : CutR a b s.length) (h1 : low = none → a = 0) (h2 : high = none → b = s.length) :
    Quiet P o (aS s :: (lowA ka low a ++ lowA kb high b)) (aS (cutL s a b)) := by
  intro w M ρ _ hl h
  obtain ⟨r1, r2, r3⟩ := slice_args ho hl h
  refine ⟨.string (mkS (cutL s a b)), w, ?_, Below.refl _ _, .t _ _ (.v _ rfl)⟩
  have e1 : ρ x = .string (mkS s) := rep_val r1
  unfold execOp
  simp only [ho, e1]
  unfold Instr.sliceAt Instr.slice
  have hb := bounds_run (P := P) false s.length s.length (low.map ρ) (high.map ρ) ka kb a b w hR (Nat.le_refl _) (low_rep h1 r2) (high_rep h2 r3)
  have hsz : (mkS s).size = s.length := rfl
  simp only [Sem.run_bind, run_underlying ht, Result.andThen_ok, Option.map_none, hsz, hb, Sem.run_pure, Option.isSome_none, Bool.false_eq_true, if_false, extract_mkS s a b hR]
theorem cutL_get {α : Type} (xs : List α) (a b : Int) (h : CutR a b xs.length) : (cutL xs a b).length = (b - a).toNat ∧ ∀ i (hi : i < (cutL xs a b).length), a.toNat + i < xs.length ∧ ∀ (h' : a.toNat + i < xs.length), (cutL xs a b)[i] = xs[a.toNat + i] := by
  obtain ⟨h1, h2, h3⟩ := h
  have hl : (cutL xs a b).length = (b - a).toNat := by unfold cutL; rw [List.length_take, List.length_drop]; omega
  refine ⟨hl, fun i hi => ⟨by omega, fun h' => ?_⟩⟩
  have : (cutL xs a b)[i]? = xs[a.toNat + i]? := by
    unfold cutL
    rw [List.getElem?_take, if_pos (by omega), List.getElem?_drop]
  rw [List.getElem?_eq_getElem hi, List.getElem?_eq_getElem h'] at this
  exact Option.some.inj this
theorem cutL_ob {o : Oper} {t e : TypeId} {te : TI} {x : Operand} {low high : Option Operand} {k : Nat} (ho : o.op = .slice t x low high none) (ht : P.underlying t = some (.slice e)) (hte : tinfo P e = some te) (hk : te.size = k) {xs : List (List T)} {ka kb : IntKind} {a b : Int} (hR : CutR a b xs.length) (h1 : low = none → a = 0) (h2 : high = none → b = xs.length) :
    Quiet P o (.t (.sl k xs) :: (lowA ka low a ++ lowA kb high b)) (.t (.sl k (cutL xs a b))) := by
  intro w M ρ _ hl h
  obtain ⟨r1, r2, r3⟩ := slice_args ho hl h
  have hsz : ∀ w, (sizeOf e).run P w = .ok k w := fun w => by
    obtain ⟨inf, d, z, hi, hu, hz, q1, _⟩ := (tparts hte).ex
    rw [← hk, q1]
    have := run_sizeOf (P := P) w hi
    rw [show P.cellsOf e = inf.size by simp [Program.cellsOf, hi]] at this
    exact this
  obtain ⟨hcl, hcg⟩ := cutL_get xs a b hR
  have hrep := rep_t r1
  generalize hv : ρ x = v at hrep
  have go : ∀ (ad : Option Addr) (cap : Nat), v = .slice ad xs.length cap → xs.length ≤ cap → (execOp ρ o).run P w = .ok (.value (.slice (if cap = a.toNat then ad else ad.map (·.add (a.toNat * k))) (b.toNat - a.toNat) (cap - a.toNat))) w := fun ad cap e hc => by
    subst e
    unfold execOp
    simp only [ho, hv]
    unfold Instr.sliceAt Instr.slice
    have hb := bounds_run (P := P) true xs.length cap (low.map ρ) (high.map ρ) ka kb a b w hR hc (low_rep h1 r2) (high_rep h2 r3)
    simp only [Sem.run_bind, run_underlying ht, Result.andThen_ok, Option.map_none, hb, Sem.run_pure, hsz]
  obtain ⟨c1, c2, c3⟩ := hR
  have hsub : b.toNat - a.toNat = (cutL xs a b).length := by rw [hcl]; omega
  cases hrep with
  | nil _ ad cap hcm =>
    have := go ad cap rfl (Nat.zero_le _)
    refine ⟨_, w, this, Below.refl _ _, .t _ _ ?_⟩
    have e0 : cutL ([] : List (List T)) a b = [] := by unfold cutL; simp
    have ea : a.toNat = 0 := by simp at c3; omega
    have eb : b.toNat = 0 := by simp at c3; omega
    rw [e0, ea, eb]
    exact .nil _ _ _ (by omega)
  | sl _ _ blk off cap c hb hM hcap hcm hkk hc hr =>
    have := go (some ⟨blk, off, none⟩) cap rfl hcap
    refine ⟨_, w, this, Below.refl _ _, .t _ _ ?_⟩
    by_cases hca : cap = a.toNat
    · rw [if_pos hca]
      have : (cutL xs a b) = [] := List.eq_nil_of_length_eq_zero (by rw [hcl]; omega)
      rw [hsub, this]
      exact .nil _ _ _ (by omega)
    · rw [if_neg hca, hsub]
      have hadd : (⟨blk, off, none⟩ : Addr).add (a.toNat * k) = ⟨blk, off + a.toNat * k, none⟩ := by unfold Addr.add; split <;> simp_all
      rw [Option.map_some, hadd]
      refine .sl k _ blk (off + a.toNat * k) (cap - a.toNat) (fun i j => c (a.toNat + i) j) hb hM (by omega) (by omega) (fun i hi => ?_) (fun i hi j hj => ?_) (fun i hi j hj => ?_)
      · obtain ⟨g1, g2⟩ := hcg i hi
        rw [g2 g1]; exact hkk _ g1
      · obtain ⟨g1, g2⟩ := hcg i hi
        have := hc (a.toNat + i) g1 j hj
        rw [show off + a.toNat * k + (i * k + j) = off + ((a.toNat + i) * k + j) by rw [Nat.add_mul]; omega]
        exact this
      · obtain ⟨g1, g2⟩ := hcg i hi
        have hj' : j < (xs[a.toNat + i]).length := by rw [← g2 g1]; exact hj
        have := hr (a.toNat + i) g1 j hj'
        simp only [g2 g1]
        exact this
end Go.Proofs.YtcmpcbpdnaodmaaDoor
namespace Go.Proofs.YtcmpcbpdnaodmaaDoor
open Go.RowKit
set_option linter.unusedVariables false
variable {P : Program}
theorem SimL.seto {C : Ctx} {st : St} {L : Nat → Loc} {a : Act} {w : World} (h : SimL C st L a w) (id : Nat) (old blk : Blk) (ho : st.mem id = some old) (hal : old.alike blk) (g : Nat) (hg : (L id).blk = some g) {w' : World}
    (os : w'.os = w.os) (tape : w'.tape = w.tape) (output : w'.output = w.output) (size : w'.heap.size = w.heap.size) (block : ∀ q, q ≠ g → w'.heap[q]? = w.heap[q]?)
    (hb : RepB (st.setm id blk) L w' (Mut C st L) id blk) : SimL C (st.setm id blk) L a w' := by
  have hM : ∀ b, Mut C (st.setm id blk) L b → Mut C st L b := by
    rintro b (hx | ⟨i, hs, hli⟩)
    · exact .inl hx
    · refine .inr ⟨i, ?_, hli⟩
      by_cases e : i = id
      · subst e; rw [ho]; rfl
      · simpa [St.setm, upd, e] using hs
  have hold : ∀ i, ((st.setm id blk).mem i).isSome = true → ∃ x, st.mem i = some x := fun i hs => by
    by_cases e : i = id
    · exact ⟨old, by rw [e]; exact ho⟩
    · exact Option.isSome_iff_exists.1 (by simpa [St.setm, upd, e] using hs)
  refine h.next rfl h.hn h.hd os tape output (by rw [size]; exact Nat.le_refl _) (fun b hb hm => block b fun e => hm ⟨id, by rw [ho]; rfl, by rw [e]; exact .inl hg⟩) (fun i hi => hi) (fun i hi b' hb' => ?_) (fun i hs hf b hl => ?_) (fun i hs hf => ?_) (fun i j b hi hj hfi hfj _ _ => ?_) (fun i b' hb' => ?_) (fun t => .inl ⟨rfl, rfl⟩)
  · by_cases e : i = id
    · subst e
      have : b' = blk := by simpa [St.setm, upd] using hb'.symm
      subst this
      exact ⟨old, ho, hal, rfl⟩
    · exact ⟨b', by simpa [St.setm, upd, e] using hb', b'.alike_refl, rfl⟩
  · obtain ⟨x, hx⟩ := hold i hs
    have := (h.mem i x hx).1
    rw [hf] at this; cases this
  · obtain ⟨x, hx⟩ := hold i hs
    have := (h.mem i x hx).1
    rw [hf] at this; cases this
  · obtain ⟨x, hx⟩ := hold i hi
    have := (h.mem i x hx).1
    rw [hfi] at this; cases this
  · by_cases e : i = id
    · subst e
      have : b' = blk := by simpa [St.setm, upd] using hb'.symm
      subst this
      refine ⟨(h.mem i old ho).1, .inr ?_⟩
      exact hb.ext (Ext.refl _ _) (fun b _ h => hM b h) (fun i h => h) (shape_like _ L) rfl (fun _ _ => rfl)
    · have hx : st.mem i = some b' := by simpa [St.setm, upd, e] using hb'
      refine ⟨(h.mem i b' hx).1, .inl ⟨hx, rfl, fun b hl => block b fun eb => ?_⟩⟩
      subst eb
      exact e (h.inj i id b (by rw [hx]; rfl) (by rw [ho]; rfl) hl (.inl hg))
theorem obj_at {C : Ctx} {st : St} {L : Nat → Loc} {a : Act} {w : World} (hs : SimL C st L a w) {x : Operand} {id : Nat} (hy : st.ev x = .ob id) {od : Od} (hm : st.mem id = some (.obj od)) : ∃ g o, (L id).blk = some g ∧ w.heap[g]? = some o ∧ RepO w (Mut C st L) (L id).own g od o ∧ a.eval x = (L id).ob od := by
  obtain ⟨g, o, hg, hw, hr⟩ := (hs.mem id _ hm).2
  have hr' := ev_rep hs x
  rw [hy] at hr'
  generalize hv : a.eval x = v at hr'
  cases hr' with
  | ob _ _ h1 hu hq => exact ⟨g, o, hg, hw, hr, hq od hm⟩
theorem cutown_ob {α : Type} {o : Oper} {t e : TypeId} {te : TI} {x : Operand} {low high : Option Operand} (ho : o.op = .slice t x low high none) (ht : P.underlying t = some (.slice e)) (hte : tinfo P e = some te) {k : Nat} (hk : te.size = k) (c : α → List T) {xs : List α} {ka kb : IntKind} {b : Int}
    (hR : CutR 0 b xs.length) (h2 : high = none → b = xs.length) : OwnMove P o 0 (.row e k (xs.map c)) (.dead :: (lowA ka low 0 ++ lowA kb high b)) (.row e k ((cutL xs 0 b).map c)) := by
  intro st id d K hdst h1 h3 hm hu hK C a w hP ⟨L, hs⟩ hd next Q hn
  have hops : opL o.op = x :: (low.toList ++ (high.toList ++ [])) := by rw [ho]; rfl
  rw [hops] at h1 h3
  simp only [List.map_cons, List.getElem?_cons_zero, Option.some.injEq, List.set_cons_zero, List.cons.injEq, true_and] at h1 h3
  have hlow : low.map a.eval = none ∧ (0 : Int) = 0 ∨ low.map a.eval = some (.int ka 0) := by
    cases low with
    | none => exact .inl ⟨rfl, rfl⟩
    | some y =>
      refine .inr ?_
      have : st.ev y = aI ka 0 := by simp [lowA] at h3; exact h3.1
      have h5 := ev_rep hs y
      rw [this] at h5
      rw [Option.map_some, rep_val h5]
  have hhigh : high.map a.eval = none ∧ b = xs.length ∨ high.map a.eval = some (.int kb b) := by
    cases high with
    | none => exact .inl ⟨rfl, h2 rfl⟩
    | some y =>
      refine .inr ?_
      have : st.ev y = aI kb b := by cases low <;> (simp [lowA] at h3; first | exact h3 | exact h3.2)
      have h5 := ev_rep hs y
      rw [this] at h5
      rw [Option.map_some, rep_val h5]
  have hsz : ∀ w, (sizeOf e).run P w = .ok k w := fun w => by
    obtain ⟨inf, d, z, hi, hu, hz, q1, _⟩ := (tparts hte).ex
    rw [← hk, q1]
    have := run_sizeOf (P := P) w hi
    rw [show P.cellsOf e = inf.size by simp [Program.cellsOf, hi]] at this
    exact this
  have hr := ev_rep hs x
  rw [h1] at hr
  generalize hv : a.eval x = v at hr
  obtain ⟨c1, c2, c3⟩ := hR
  have hlen : (cutL xs 0 b).length = b.toNat := by unfold cutL; rw [List.length_take, List.length_drop]; simp; omega
  have hcut : cutL xs 0 b = xs.take b.toNat := by unfold cutL; simp
  cases hr with
  | ref _ _ q1 hus hq =>
    have hval := hq _ _ _ hm
    rw [List.length_map] at hval
    obtain ⟨h0, hkk, hrow⟩ := (hs.mem _ _ hm).2
    have hidd : id ≠ d := fun e => by rw [e, hu] at hus; cases hus
    have run : ∀ (ad : Option Addr) (cap : Nat), v = .slice ad xs.length cap → xs.length ≤ cap → (execOp a.eval o).run P w = .ok (.value (.slice (if cap = 0 then ad else ad.map (·.add 0)) b.toNat cap)) w := fun ad cap e hc => by
      subst e
      unfold execOp
      simp only [ho, hv]
      unfold Instr.sliceAt Instr.slice
      have hb := bounds_run (P := P) true xs.length cap (low.map a.eval) (high.map a.eval) ka kb 0 b w ⟨c1, c2, c3⟩ hc hlow hhigh
      simp only [Sem.run_bind, run_underlying ht, Result.andThen_ok, Option.map_none, hb, Sem.run_pure, hsz]
      simp
    rcases hrow with ⟨hxs, hnil⟩ | ⟨g, cur, hgk, hw, hle, hcm, hcs, hc⟩
    · have hxs' : xs = [] := by simpa using hxs
      subst hxs'
      have hb0 : b.toNat = 0 := by simp at c3; omega
      have := run none 0 (by rw [hval, hnil]; rfl) (Nat.le_refl _)
      rw [if_pos rfl, hb0] at this
      have e0 : (cutL ([] : List α) 0 b) = [] := by unfold cutL; simp
      refine wp_value this (hn _ _ _ (by simp [St.new, St.del]) hK ?_)
      rw [e0]
      exact nil_row (hs.del id) d hu e k h0 _ hdst (hd d hdst)
    · have hle' : xs.length ≤ (L id).cap := by simpa using hle
      have := run (some ⟨g, 0, none⟩) (L id).cap (by rw [hval]; simp [Loc.slice, hgk]) hle'
      have hadd : (⟨g, 0, none⟩ : Addr).add 0 = ⟨g, 0, none⟩ := by unfold Addr.add; split <;> simp_all
      rw [Option.map_some, hadd, ite_self] at this
      have hsim := hs.renew id d (.inl (hd d hdst)) hu (.row e k ((cutL xs 0 b).map c)) _ hm g hgk (w' := w) rfl rfl rfl rfl (fun _ _ => rfl) (fun M hM => ⟨h0, fun i hi => ?_, .inr ⟨g, cur, by rw [upd_same]; exact hgk, hw, by rw [upd_same, List.length_map, hlen]; omega, by rw [upd_same]; exact hcm, by rw [upd_same]; exact hcs, fun i hi j hj => ?_⟩⟩)
      · refine wp_value this (hn _ _ _ (by simp [St.new, St.del]) hK ⟨_, hsim.put _ hd (.ref d _ rfl (by simp [St.new, upd]) fun e' k' xs' hm' => ?_)⟩)
        have : (cutL xs 0 b).map c = xs' := by
          have := hm'
          simp only [St.new, upd_same, Option.some.injEq, Blk.row.injEq] at this
          exact this.2.2
        subst this
        rw [upd_same, List.length_map, hlen]
        simp [Loc.slice, hgk]
      · have hi' : i < (xs.map c).length := by simp [hcut] at hi; simp; omega
        have : ((cutL xs 0 b).map c)[i] = (xs.map c)[i] := by simp [hcut]
        rw [this]; exact hkk i hi'
      · have hi' : i < (xs.map c).length := by simp [hcut] at hi; simp; omega
        have e3 : ((cutL xs 0 b).map c)[i] = (xs.map c)[i] := by simp [hcut]
        simp only [e3]
        obtain ⟨u, hu1, hu2⟩ := hc i hi' j (by rw [e3] at hj; exact hj)
        exact ⟨u, hu1, hu2.ext (Ext.refl _ _) (fun q _ => hM q)⟩
theorem quo_ob (ty : TypeId) {k : IntKind} {a b : Int} (h : b ≠ 0) : BinOb P .quo ty (.int k a) (.int k b) (.int k (k.wrap (Int.tdiv a b))) := by
  show semPure (binOp .quo ty (.int k a) (.int k b)) = _
  simp [binOp, Op.intDiv, h]; rfl
theorem rem_ob (ty : TypeId) {k : IntKind} {a b : Int} (h : b ≠ 0) : BinOb P .rem ty (.int k a) (.int k b) (.int k (Int.tmod a b)) := by
  show semPure (binOp .rem ty (.int k a) (.int k b)) = _
  simp [binOp, Op.intDiv, h]; rfl
theorem shl_ob (ty : TypeId) {k k' : IntKind} {a b : Int} (h : 0 ≤ b) : BinOb P .shl ty (.int k a) (.int k' b) (.int k (k.wrap (a * 2 ^ (min b.toNat k.bits)))) := by
  show semPure (binOp .shl ty (.int k a) (.int k' b)) = _
  have : ¬ b < 0 := by omega
  simp [binOp, Op.shift, this]; rfl
theorem shr_ob (ty : TypeId) {k k' : IntKind} {a b : Int} (h : 0 ≤ b) : BinOb P .shr ty (.int k a) (.int k' b) (.int k (a.fdiv (2 ^ (min b.toNat k.bits)))) := by
  show semPure (binOp .shr ty (.int k a) (.int k' b)) = _
  have : ¬ b < 0 := by omega
  simp [binOp, Op.shift, this]; rfl
def BytesOb (xs : List Int) : Prop := ∀ x ∈ xs, 0 ≤ x ∧ x < 256
instance (xs : List Int) : Decidable (BytesOb xs) := by unfold BytesOb; infer_instance
def bytesS (xs : List Int) : List UInt8 := xs.map fun x => UInt8.ofNat x.toNat
theorem bytesS_ob {src dst e : TypeId} {x : Operand} {o : Oper} (ho : o.op = .convert src dst x) (hs : P.underlying src = some (.slice e)) (he : P.underlying e = some (.int .u8)) (hd : P.underlying dst = some .string) (c : Int → List T) (hcc : c = fun n => [tI .u8 n]) {xs : List Int} (hb : BytesOb xs) :
    Quiet P o [.t (.sl 1 (xs.map c))] (aS (bytesS xs)) := by
  intro w M ρ _ hl hr
  have h0 := hr 0 (by simp) (by rw [← hl]; simp)
  have h1 : (opL o.op)[0]'(by rw [← hl]; simp) = x := by simp [ho, opL]
  rw [h1] at h0
  simp only [List.getElem_cons_zero] at h0
  have e0 : xs.map c = (bytesS xs).map fun b : UInt8 => [T.v (.int .u8 (b.toNat : Int))] := by
    unfold bytesS
    rw [List.map_map, hcc]
    refine List.map_congr_left fun n hn => ?_
    have := hb n hn
    simp only [Function.comp]
    have e1 : ((UInt8.ofNat n.toNat).toNat : Int) = n := by
      rw [UInt8.toNat_ofNat']; omega
    rw [e1]
  rw [e0] at h0
  generalize bytesS xs = l at h0
  refine ⟨.string ⟨l.toArray⟩, w, ?_, Below.refl _ _, .t _ _ (.v _ rfl)⟩
  unfold execOp
  simp only [ho]
  generalize ρ x = v at h0
  have h2 := rep_t h0
  have run : (convert src dst v).run P w = .ok (.string ⟨l.toArray⟩) w := by
    generalize hX : (l.map fun b : UInt8 => [T.v (.int .u8 (b.toNat : Int))]) = ys at h2
    cases h2 with
    | nil _ a cap hcm =>
      have : l = [] := by simpa using hX
      subst this
      cases a with
      | none => exact Go.Lib.run_convert_nil_bytes w src dst e cap hs he hd
      | some p => exact run_convert_bytes_back (P := P) w src dst e p cap [] hs he hd (fun j hj => by simp at hj)
    | sl _ _ b off cap c hb hM hcap hcm hk hc hrr =>
      subst hX
      have hlen : (l.map fun b : UInt8 => [T.v (.int .u8 (b.toNat : Int))]).length = l.length := by simp
      rw [hlen]
      refine run_convert_bytes_back (P := P) w src dst e _ cap l hs he hd (fun j hj => ?_)
      have hadd : (⟨b, off, none⟩ : Addr).add j = ⟨b, off + j, none⟩ := by unfold Addr.add; split <;> simp_all
      rw [hadd]
      have h3 := hc j (by simpa using hj) 0 (by omega)
      have h4 := hrr j (by simpa using hj) 0 (by simp)
      simp only [List.getElem_map, List.getElem_cons_zero] at h4
      have h5 := rep_val (st := ⟨0, fun _ => .dead, fun _ => none, fun _ => false⟩) (L := fun _ => nol) (.t _ _ h4)
      rw [Nat.mul_one, Nat.add_zero, h5] at h3
      exact h3
  simp only [Sem.run_bind, run, Result.andThen_ok, Sem.run_pure]
end Go.Proofs.YtcmpcbpdnaodmaaDoor
namespace Go.Proofs.YtcmpcbpdnaodmaaDoor
open Go.RowKit
set_option linter.unusedVariables false
variable {P : Program}
section
variable {α : Type} {o : Oper} {t e : TypeId} {te : TI} {x y z : Operand} {k : Nat} {xs : List α} {ka kb : IntKind} {b : Int}
end
section
variable {α : Type} {o : Oper} {t e : TypeId} {te : TI} {x y z : Operand} {k : Nat} {xs : List α} {ka kb : IntKind} {a b : Int} {s : List UInt8}
end
def eqV : Value → Value → Bool
  | .int _ a, .int _ b => decide (a = b)
  | .string s, .string u => decide (s.data.toList = u.data.toList)
  | .bool a, .bool b => a == b
  | _, _ => false
def eqL : List Value → List Value → Bool
  | [x], [y] => eqV x y
  | x :: l, y :: r => eqV x y && eqL l r
  | _, _ => true
def eqKind (P : Program) (t : TypeId) : Value → Value → Bool
  | .int k _, .int k' _ => (match P.underlying t with | some (.int _) => decide (k = k') | _ => false)
  | .string _, .string _ => (match P.underlying t with | some .string => true | _ => false)
  | .bool _, .bool _ => (match P.underlying t with | some .bool => true | _ => false)
  | _, _ => false
def eqFlat (P : Program) : Nat → List Field → List Value → List Value → Bool
  | _, [], [], [] => true
  | i, f :: fs, x :: l, y :: r => (match decide (f.name ≠ "_"), Nat.beq f.offset i, tinfo P f.type with
    | true, true, some ti => (match Nat.beq ti.size 1, ti.agg, eqKind P f.type x y with
      | true, false, true => eqFlat P (i + 1) fs l r
      | _, _, _ => false)
    | _, _, _ => false)
  | _, _, _, _ => false
def eqAll (P : Program) (t : TypeId) (xs ys : List Value) : Bool :=
  match P.underlying t with
  | some (.struct fs) => (match P.stoodInHeld t, P.eqGuardType P.depth t, xs with
    | false, false, _ :: _ => eqFlat P 0 fs.toList xs ys
    | _, _, _ => false)
  | _ => false
theorem list_beqB (a b : List UInt8) : (a == b) = decide (a = b) := by
  by_cases h : a = b
  · subst h; simp
  · simp [h]
theorem eqKind_run {t : TypeId} {x y : Value} (h : eqKind P t x y = true) (d : Nat) (w : World) : (Op.equalIn (d + 1) t x y).run P w = .ok (eqV x y) w := by
  unfold eqKind at h
  split at h
  · split at h
    · rename_i a k' b _ k'' hu
      have : _ = _ := of_decide_eq_true h
      subst this
      rw [run_equalIn_int w d t _ _ a b hu]
      rfl
    · cases h
  · split at h
    · rename_i s u _ hu
      rw [run_equalIn_string w d t s u hu]
      congr 1
      show (s.toList == u.toList) = decide (s.data.toList = u.data.toList)
      have e1 : ∀ b : ByteArray, b.toList = b.data.toList := fun b => mkS_list b.data.toList
      rw [e1, e1, list_beqB]
    · cases h
  · split at h
    · rename_i a b _ hu
      exact run_equalIn_bool' w d t a b hu
    · cases h
  · cases h
theorem part_one {t : TypeId} {ti : TI} (ht : tinfo P t = some ti) (ha : ti.agg = false) (cs : Array Value) (i : Nat) (v : Value) (hv : cs[i]? = some v) (w : World) : (part t cs i).run P w = .ok v w := by
  obtain ⟨inf, d, z, hi, hu, hz, q1, q2, q3, q4, q5, q6, q7, q8, q9⟩ := (tparts ht).ex
  unfold part
  rw [Sem.run_bind, run_isAgg hu w, Result.andThen_ok, ← q3, ha]
  simp [hv]
theorem eqFlat_run (d : Nat) (xs ys : List Value) (w : World) : ∀ (fs : List Field) (l r : List Value) (i : Nat), xs.drop i = l → ys.drop i = r → eqFlat P i fs l r = true →
    (Op.eqFields (d + 1) ⟨xs⟩ ⟨ys⟩ fs).run P w = .ok (eqL l r) w
  | [], l, r, i, hl, hr, h => by
    cases l with
    | cons => cases r <;> simp [eqFlat] at h
    | nil => cases r with
      | cons => simp [eqFlat] at h
      | nil => simp [Op.eqFields, eqL]
  | f :: fs, l, r, i, hl, hr, h => by
    cases l with
    | nil => cases r <;> simp [eqFlat] at h
    | cons x l => cases r with
      | nil => simp [eqFlat] at h
      | cons y r =>
        simp only [eqFlat] at h
        split at h
        · rename_i ti hn ho ht
          split at h
          · rename_i hs ha hk
            have hoff : f.offset = i := beq_t ho
            have hx : (⟨xs⟩ : Array Value)[f.offset]? = some x := by
              rw [hoff]; have := congrArg (·[0]?) hl; simpa using this
            have hy : (⟨ys⟩ : Array Value)[f.offset]? = some y := by
              rw [hoff]; have := congrArg (·[0]?) hr; simpa using this
            have hl' : xs.drop (i + 1) = l := by rw [← List.drop_drop, hl]; rfl
            have hr' : ys.drop (i + 1) = r := by rw [← List.drop_drop, hr]; rfl
            have ih := eqFlat_run d xs ys w fs l r (i + 1) hl' hr' h
            have hn' : f.name ≠ "_" := of_decide_eq_true hn
            simp only [Op.eqFields, if_pos hn', Sem.run_bind, part_one ht ha _ _ _ hx, part_one ht ha _ _ _ hy, Result.andThen_ok, eqKind_run hk]
            have key : eqL (x :: l) (y :: r) = (eqV x y && eqL l r) := by
              cases l with
              | nil => cases r with
                | nil => simp [eqL]
                | cons => cases fs <;> simp [eqFlat] at h
              | cons => simp [eqL]
            rw [key]
            cases eqV x y with
            | false => simp
            | true => simpa using ih
          · cases h
        · cases h
theorem rep_vals {w : World} {M : Nat → Prop} {xs : List Value} {v : Value} (h : RepF w M (.agg (xs.map A.v)) v) : v = .agg ⟨xs⟩ := by
  cases h with
  | agg _ vs hs h1 hr =>
    congr 1
    refine Array.ext (by simpa using hs) fun i h1' h2' => ?_
    have := hr i (by simpa using h2')
    simp only [List.getElem_map] at this
    rw [rep_val this]
    simp
theorem equal_run {t : TypeId} {xs ys : List Value} (h : eqAll P t xs ys = true) (w : World) : (Op.equalIn 10000 t (.agg ⟨xs⟩) (.agg ⟨ys⟩)).run P w = .ok (eqL xs ys) w ∧ P.eqGuardType P.depth t = false := by
  unfold eqAll at h
  split at h
  · rename_i fs hu
    split at h
    · rename_i x l hst hg
      have hf : P.fieldsOf t = fs := by simp [Program.fieldsOf, hu]
      refine ⟨?_, hg⟩
      rw [run_equalIn_struct w 9999 t _ _ (by rw [hf]; exact hu) hst, hf]
      exact eqFlat_run 9998 _ _ w _ _ _ 0 rfl rfl h
    · cases h
  · cases h
theorem eqA_ob {o : Oper} {t : TypeId} {x y : Operand} {hh : Option Operand} {ne : Bool} {xs ys : List Value} {e : Bool} (ho : ∃ q, o.op = .binOp (cond ne .neq .eql) t x y q) (h : eqAll P t xs ys = true) (he : eqL xs ys = e) :
    Quiet P o [.agg (xs.map A.v), .agg (ys.map A.v)] (aB (cond ne (!e) e)) := by
  intro w M ρ _ hl hr
  obtain ⟨q, ho⟩ := ho
  have h0 := hr 0 (by simp) (by rw [ho]; simp [opL])
  have h1 := hr 1 (by simp) (by rw [ho]; simp [opL])
  have e0 : (opL o.op)[0]'(by rw [ho]; simp [opL]) = x := by simp [ho, opL]
  have e1 : (opL o.op)[1]'(by rw [ho]; simp [opL]) = y := by simp [ho, opL]
  rw [e0] at h0; rw [e1] at h1
  have v0 : ρ x = .agg ⟨xs⟩ := rep_vals h0
  have v1 : ρ y = .agg ⟨ys⟩ := rep_vals h1
  obtain ⟨hrun, hg⟩ := equal_run h w
  subst he
  cases ne with
  | false =>
    refine ⟨.bool (eqL xs ys), w, ?_, Below.refl _ _, .t _ _ (.v _ rfl)⟩
    unfold execOp
    simp only [ho, v0, v1, cond_false, Sem.run_bind, run_eqGuard_agg w _ t x y _ _ hg, Result.andThen_ok, run_eql_struct, hrun, Sem.run_pure]
  | true =>
    refine ⟨.bool (!eqL xs ys), w, ?_, Below.refl _ _, .t _ _ (.v _ rfl)⟩
    unfold execOp
    simp only [ho, v0, v1, cond_true, Sem.run_bind, run_eqGuard_agg w _ t x y _ _ hg, Result.andThen_ok, run_neq_struct, hrun, Sem.run_pure]
theorem call2_run {o : Oper} {c : Call} {b : Builtin} (ho : o.op = .call c) (hc : c.callee = .builtin b) {x y : Operand} (hxy : c.args = #[x, y]) (ρ : Operand → Value) (w : World) :
    ∃ cs, (execOp ρ o).run P w = (builtin b c.argTypes o.type cs #[ρ x, ρ y]).run P w := by
  refine ⟨c.args.map (fun | .const _ => true | _ => false), ?_⟩
  unfold execOp
  simp only [ho, resolve, hc, Sem.run_bind, Sem.run_pure, Result.andThen_ok, invoke]
  rw [hxy, show (#[x, y] : Array Operand).map ρ = #[ρ x, ρ y] by simp]
  have e : ∀ f g : Operand → Bool, (∀ z, f z = g z) → f = g := fun f g h => funext h
  refine congrArg (fun q => (builtin b c.argTypes o.type (Array.map q #[x, y]) #[ρ x, ρ y]).run P w) (e _ _ fun z => ?_)
  cases z <;> rfl
theorem two_vals {o : Oper} {c : Call} {b : Builtin} (ho : o.op = .call c) (hc : c.callee = .builtin b) {x y : Operand} (hxy : c.args = #[x, y]) {w : World} {M : Nat → Prop} {ρ : Operand → Value} {p q : A} (hl : [p, q].length = (opL o.op).length)
    (hr : ∀ i (hi : i < [p, q].length) (hi' : i < (opL o.op).length), RepF w M ([p, q][i]) (ρ ((opL o.op)[i]))) : RepF w M p (ρ x) ∧ RepF w M q (ρ y) := by
  have hL : opL o.op = [x, y] := by rw [ho]; simp [opL, hc, hxy]
  have h0 := hr 0 (by simp) (by rw [hL]; simp)
  have h1 := hr 1 (by simp) (by rw [hL]; simp)
  simp only [hL] at h0 h1
  exact ⟨h0, h1⟩
theorem min_ob {o : Oper} {k : IntKind} {a b : Int} {c : Call} (ho : o.op = .call c) (hc : c.callee = .builtin .min) {x y : Operand} (hxy : c.args = #[x, y]) : Quiet P o [aI k a, aI k b] (aI k (if b < a then b else a)) := by
  intro w M ρ _ hl hr
  obtain ⟨h0, h1⟩ := two_vals ho hc hxy hl hr
  obtain ⟨cs, e⟩ := call2_run (P := P) ho hc hxy ρ w
  refine ⟨.int k (if b < a then b else a), w, ?_, Below.refl _ _, .t _ _ (.v _ rfl)⟩
  rw [e, rep_val h0, rep_val h1]
  simp [builtin, Builtin.min_, Builtin.min2]
theorem max_ob {o : Oper} {k : IntKind} {a b : Int} {c : Call} (ho : o.op = .call c) (hc : c.callee = .builtin .max) {x y : Operand} (hxy : c.args = #[x, y]) : Quiet P o [aI k a, aI k b] (aI k (if a < b then b else a)) := by
  intro w M ρ _ hl hr
  obtain ⟨h0, h1⟩ := two_vals ho hc hxy hl hr
  obtain ⟨cs, e⟩ := call2_run (P := P) ho hc hxy ρ w
  refine ⟨.int k (if a < b then b else a), w, ?_, Below.refl _ _, .t _ _ (.v _ rfl)⟩
  rw [e, rep_val h0, rep_val h1]
  simp [builtin, Builtin.max_, Builtin.max2]
theorem str_le_ob (ty : TypeId) (a b : List UInt8) : BinOb P .leq ty (.string (mkS a)) (.string (mkS b)) (.bool (Op.bytesLess a b || decide (a = b))) := by
  show some (Value.bool (Op.bytesLess (mkS a).toList (mkS b).toList || (mkS a).toList == (mkS b).toList)) = _
  rw [mkS_list, mkS_list, list_beqB]
theorem str_gt_ob (ty : TypeId) (a b : List UInt8) : BinOb P .gtr ty (.string (mkS a)) (.string (mkS b)) (.bool (!(Op.bytesLess a b || decide (a = b)))) := by
  show some (Value.bool !(Op.bytesLess (mkS a).toList (mkS b).toList || (mkS a).toList == (mkS b).toList)) = _
  rw [mkS_list, mkS_list, list_beqB]
theorem str_ge_ob (ty : TypeId) (a b : List UInt8) : BinOb P .geq ty (.string (mkS a)) (.string (mkS b)) (.bool (!(Op.bytesLess a b))) := by
  show some (Value.bool !(Op.bytesLess (mkS a).toList (mkS b).toList)) = _
  rw [mkS_list, mkS_list]
theorem makes_quiet {o : Oper} {xs : List A} {e : TypeId} {k : Nat} {ys : List (List T)} (h : Makes P o xs e k ys) : Quiet P o xs (.t (.sl k ys)) := by
  intro w M ρ hM hl hr
  obtain ⟨h0, h⟩ := h
  obtain ⟨cur, cap, w1, hh, os, tape, output, hle, hcm, hsz, hk, hc, hrun⟩ := h w M ρ hl hr
  have hsize : w1.heap.size = w.heap.size := by rw [hh]
  have hold : ∀ b, b < w.heap.size → (w1.alloc (.cells cur e)).heap[b]? = w.heap[b]? := fun b hb => by rw [Below.heap_alloc w1 _ _ (by omega), hh]
  have hnew : (w1.alloc (.cells cur e)).heap[w.heap.size]? = some (.cells cur e (0, 0)) := by rw [← hsize]; exact heap_alloc_new w1 _
  refine ⟨_, _, hrun, ⟨os, tape, output, by simp; omega, hold⟩, .t _ _ ?_⟩
  cases ys with
  | nil => exact .nil _ _ _ hcm
  | cons y ys =>
    have hcc : ∀ i j, ∃ c, ∀ (hi : i < (y :: ys).length) (hj : j < ((y :: ys)[i]).length), cur[i * k + j]? = some c ∧ RepT w M ((y :: ys)[i][j]) c := fun i j => by
      by_cases hi : i < (y :: ys).length
      · by_cases hj : j < ((y :: ys)[i]).length
        · obtain ⟨c, h1, h2⟩ := hc i _ (List.getElem?_eq_getElem hi) j _ (List.getElem?_eq_getElem hj)
          exact ⟨c, fun _ _ => ⟨h1, h2⟩⟩
        · exact ⟨undef, fun _ h => absurd h hj⟩
      · exact ⟨undef, fun h => absurd h hi⟩
    have hcs := fun i j => Classical.choose_spec (hcc i j)
    have hkk : ∀ i (hi : i < (y :: ys).length), ((y :: ys)[i]).length = k := fun i hi => hk i _ (List.getElem?_eq_getElem hi)
    refine .sl k (y :: ys) w.heap.size 0 cap (fun i j => Classical.choose (hcc i j)) (by simp; omega) (fun hm => Nat.lt_irrefl _ (hM _ hm)) hle hcm hkk (fun i hi j hj => ?_) (fun i hi j hj => ?_)
    · rw [Nat.zero_add, cell_of_row _ _ _ _ _ _ hnew]
      exact (hcs i j hi (by rw [hkk i hi]; exact hj)).1
    · exact ((hcs i j hi hj).2).ext ⟨by simp; omega, fun k hk _ => hold k hk⟩ (fun _ _ h => h)
def idxA : Nat → List (Nat × Operand) → List A → List (Nat × A)
  | _, [], _ => []
  | _, _, [] => []
  | n, p :: l, a :: r => (p.1, a) :: idxA n l r
theorem build_makes {o : Oper} {t : TypeId} {len : Nat} {parts : Array (Nat × Operand)} (ho : o.op = .buildSlice t len parts) {ti te : TI} {e : TypeId} (ht : tinfo P t = some ti) (he : ti.elem = some e) (hte : tinfo P e = some te) (h0 : Nat.blt 0 te.size = true) (hlen : Nat.beq parts.size len = true) (hsmall : Nat.ble (len * te.size) 16777216 = true)
    {k : Nat} (hk : te.size = k) {bs : List A} {xs : List (List T)} (hal : bs.length = parts.toList.length) (hparts : partsT k 0 (idxA 0 parts.toList bs) = some xs) : Makes P o bs e k xs := by
  subst hk
  have h0 : 0 < te.size := by simpa using h0
  have hlen : parts.size = len := by simpa using hlen
  have hsmall : len * te.size ≤ 16777216 := by simpa using hsmall
  refine ⟨h0, fun w M ρ hl hr => ?_⟩
  obtain ⟨i, td, z, hi, hud, hz, h1, h2, h3, h4, h5, h6, h7, h8, h9⟩ := (tparts ht).ex
  obtain ⟨ie, tde, ze, hie, hue, hze, g1, g2, g3, g4, g5, g6, g7, g8, g9⟩ := (tparts hte).ex
  have := h6 e he
  subst this
  have hL : opL o.op = parts.toList.map (·.2) := by rw [ho]; rfl
  let tri : List (Nat × A × Value) := (parts.toList.zip bs).map fun p => (p.1.1, p.2, ρ p.1.2)
  have htri : tri.map (fun p => (p.1, p.2.1)) = idxA 0 parts.toList bs := by
    have : ∀ (l : List (Nat × Operand)) (r : List A), ((l.zip r).map fun p => (p.1.1, p.2, ρ p.1.2)).map (fun p => (p.1, p.2.1)) = idxA 0 l r := by
      intro l
      induction l with
      | nil => intro r; rfl
      | cons p l ih => intro r; cases r with
        | nil => rfl
        | cons a r => simp only [List.zip_cons_cons, List.map_cons, idxA, ih]
    exact this _ _
  have htri2 : tri.map (fun p => (p.1, p.2.2)) = parts.toList.map fun p => (p.1, ρ p.2) := by
    have : ∀ (l : List (Nat × Operand)) (r : List A), r.length = l.length → ((l.zip r).map fun p => (p.1.1, p.2, ρ p.1.2)).map (fun p => (p.1, p.2.2)) = l.map fun p => (p.1, ρ p.2) := by
      intro l
      induction l with
      | nil => intro r _; rfl
      | cons p l ih => intro r hr; cases r with
        | nil => simp at hr
        | cons a r => simp only [List.zip_cons_cons, List.map_cons, ih r (by simpa using hr)]
    exact this _ _ hal
  obtain ⟨us, hu1, hu2, hu3, _, hu5⟩ := fill_row (st := ⟨0, fun _ => .dead, fun _ => none, fun _ => false⟩) (L := fun _ => nol) (w := w) (M := M) te.size h0 tri 0 len xs ((Array.range (len * te.size)).map (ze.cells[· % ze.cells.size]!)) (fun p hp => by
    obtain ⟨q, hq, rfl⟩ := List.mem_map.1 hp
    obtain ⟨n, hn, rfl⟩ := List.getElem_of_mem hq
    have hn1 : n < parts.toList.length := by simp at hn; simp; omega
    have hn2 : n < bs.length := by rw [hal]; exact hn1
    have := hr n hn2 (by rw [hL]; simpa using hn1)
    simp only [hL, List.getElem_map] at this
    simp only [List.getElem_zip]
    exact this) (by rw [htri]; exact hparts) (by simp [tri, hal, hlen]) (by simp)
  have hxl : xs.length = len := by rw [hu3]; simp [tri, hal, hlen]
  have hrun : (Instr.buildSlice t len (parts.map fun (i, x) => (i, ρ x))).run P w = .ok (.slice (some ⟨w.heap.size, 0, none⟩) xs.length len) (w.alloc (.cells us e)) := by
    rw [hxl]
    have hfill : Instr.fill (fun i => some (i * ie.size, ie.size)) ((Array.range (len * ie.size)).map (ze.cells[· % ze.cells.size]!)) (parts.map fun (i, x) => (i, ρ x)).toList = some us := by
      rw [← g1, Array.toList_map]
      rw [htri2] at hu1
      exact hu1
    by_cases hpos : len * ie.size = 0
    · have hl0 : len = 0 := by rcases Nat.mul_eq_zero.1 hpos with h | h <;> omega
      subst hl0
      have hp0 : parts = #[] := Array.eq_empty_of_size_eq_zero hlen
      subst hp0
      have e0 : ∀ (f : Nat → Value), (Array.range 0).map f = #[] := fun f => Array.eq_empty_of_size_eq_zero (by simp)
      have hus : us = #[] := by
        have := hfill.symm
        simp only [Nat.zero_mul, e0] at this
        simpa [Instr.fill] using this
      subst hus
      simp [Instr.buildSlice, run_underlying hud, sizeOf, typeInfo, hie, Instr.fill, newRow, e0]
      try exact congrArg (fun c => w.alloc (.cells c e)) (Array.eq_empty_of_size_eq_zero (by simp))
    · exact run_buildSlice w t e len _ us ie ze hud hie hze (by rw [← g1]; omega) hpos hfill
  refine ⟨us, len, w, rfl, rfl, rfl, rfl, by omega, by unfold maxLen; have := Nat.le_mul_of_pos_right len h0; omega, by rw [hu2]; simp, fun p x hx => (hu5 p x hx).1, fun p x hx j tt ht => ?_, ?_⟩
  · have := (hu5 p x hx).2 j tt ht
    rwa [Nat.zero_add] at this
  · unfold execOp
    simp only [ho]
    rw [Sem.run_bind, hrun]
    rfl
end Go.Proofs.YtcmpcbpdnaodmaaDoor
namespace Go.Proofs.YtcmpcbpdnaodmaaDoor
open Go.RowKit
set_option linter.unusedVariables false
variable {P : Program}
def MakeOb (bytes : Nat) (n : Int) : Prop := 0 ≤ n ∧ bytes * n ≤ 281474976710656 ∧ n ≤ maxLen
instance (b : Nat) (n : Int) : Decidable (MakeOb b n) := by unfold MakeOb; infer_instance
def zeroV : Value → T → Bool
  | .int k n, .v (.int k' n') => decide (k = k') && decide (n = n')
  | .bool a, .v (.bool b) => a == b
  | .string s, .v (.string u) => (match s.data.toList, u.data.toList with | [], [] => true | _, _ => false)
  | .pointer none, .v (.pointer none) => true
  | .slice none 0 0, .sl _ [] => true
  | _, _ => false
def zeroL : List Value → List T → Bool
  | [], [] => true
  | v :: l, t :: r => zeroV v t && zeroL l r
  | _, _ => false
theorem zeroV_rep {w : World} {M : Nat → Prop} {v : Value} {t : T} (h : zeroV v t = true) : RepT w M t v := by
  unfold zeroV at h
  split at h
  · simp only [Bool.and_eq_true, decide_eq_true_eq] at h
    obtain ⟨rfl, rfl⟩ := h
    exact .v _ rfl
  · rename_i a b
    have : a = b := by simpa using h
    subst this
    exact .v _ rfl
  · rename_i s u
    split at h
    · rename_i h1 h2
      have e1 : s = u := by
        obtain ⟨⟨a⟩⟩ := s
        obtain ⟨⟨b⟩⟩ := u
        simp only at h1 h2
        rw [h1, h2]
      subst e1
      exact .v _ rfl
    · cases h
  · exact .v _ rfl
  · exact .nil _ _ _ (Nat.zero_le _)
  · cases h
theorem zeroL_get : ∀ {l : List Value} {r : List T}, zeroL l r = true → l.length = r.length ∧ ∀ (j : Nat) (t : T), r[j]? = some t → ∃ v, l[j]? = some v ∧ zeroV v t = true
  | [], [], _ => ⟨rfl, fun j t h => by simp at h⟩
  | v :: l, t :: r, h => by
    simp only [zeroL, Bool.and_eq_true] at h
    obtain ⟨h1, h2⟩ := zeroL_get h.2
    refine ⟨by simp [h1], fun j u hj => ?_⟩
    cases j with
    | zero => simp at hj; subst hj; exact ⟨v, rfl, h.1⟩
    | succ j => exact h2 j u (by simpa using hj)
  | [], _ :: _, h => by simp [zeroL] at h
  | _ :: _, [], h => by simp [zeroL] at h
theorem make_ob {α : Type} {o : Oper} {t e : TypeId} {te : TI} {x y : Operand} (ho : o.op = .makeSlice t x y) (ht : P.underlying t = some (.slice e)) (hte : tinfo P e = some te) {k b : Nat} (hk : te.size = k) (h0 : Nat.blt 0 k = true) (hb : te.bytes = b)
    (c : α → List T) (z : α) (hz : zeroL te.zero (c z) = true) {k1 k2 : IntKind} {n : Int} (h : MakeOb b n) : Makes P o [aI k1 n, aI k2 n] e k ((List.replicate n.toNat z).map c) := by
  subst hk; subst hb
  have h0 : 0 < te.size := by simpa using h0
  obtain ⟨n0, n1, n2⟩ := h
  refine ⟨h0, fun w M ρ hl hr => ?_⟩
  obtain ⟨ie, tde, ze, hie, hue, hze, g1, g2, g3, g4, g5, g6, g7, g8, g9⟩ := (tparts hte).ex
  have hL : opL o.op = [x, y] := by rw [ho]; rfl
  have r0 := hr 0 (by simp) (by rw [hL]; simp)
  have r1 := hr 1 (by simp) (by rw [hL]; simp)
  simp only [hL] at r0 r1
  have v0 : ρ x = .int k1 n := rep_val r0
  have v1 : ρ y = .int k2 n := rep_val r1
  obtain ⟨zl, zg⟩ := zeroL_get hz
  have hzs : ze.cells.size = te.size := by rw [g9, g1]
  have hcl : (c z).length = te.size := by rw [← zl, g4]; simpa using hzs
  have hrun := run_make (P := P) w t e ie ze ht hie hze k1 k2 n n n0 (Int.le_refl _) (by rw [← g2]; exact n1) (by unfold maxLen at n2; omega)
  rw [← g1] at hrun
  refine ⟨madeCells ze.cells (n.toNat * te.size), n.toNat, w, rfl, rfl, rfl, rfl, by simp, by omega, size_madeCells _ _, fun p u hu => ?_, fun p u hu j tt ht' => ?_, ?_⟩
  · simp only [List.map_replicate] at hu
    obtain ⟨hp, rfl⟩ := List.getElem?_eq_some_iff.1 hu
    simpa using hcl
  · simp only [List.map_replicate] at hu
    obtain ⟨hp, rfl⟩ := List.getElem?_eq_some_iff.1 hu
    simp only [List.getElem_replicate] at ht'
    simp only [List.length_replicate] at hp
    obtain ⟨v, hv, hzv⟩ := zg j tt ht'
    refine ⟨v, ?_, zeroV_rep hzv⟩
    have hj : j < te.size := by rw [← hcl]; exact (List.getElem?_eq_some_iff.1 ht').1
    have hlt : p * te.size + j < n.toNat * te.size := by
      have := Nat.mul_le_mul_right te.size hp
      rw [Nat.succ_eq_add_one, Nat.add_mul] at this
      omega
    rw [g4] at hv
    unfold madeCells
    rw [Array.getElem?_map, Array.getElem?_range, if_pos hlt]
    simp only [Option.map_some, hzs]
    rw [Nat.add_comm, Nat.add_mul_mod_self_right, Nat.mod_eq_of_lt hj]
    have hj2 : j < ze.cells.size := by omega
    rw [getElem!_pos ze.cells j hj2]
    simpa [hj2] using hv
  · unfold execOp
    simp only [ho, v0, v1]
    rw [Sem.run_bind, hrun]
    simp
end Go.Proofs.YtcmpcbpdnaodmaaDoor
namespace Go.Proofs.YtcmpcbpdnaodmaaDoor
open Go.RowKit
set_option linter.unusedVariables false
theorem wrap64 {n : Int} (h0 : -9223372036854775808 ≤ n) (h1 : n ≤ 9223372036854775807) : w64 n = n := by
  show IntKind.wrap .i64 n = n
  rw [IntKind.wrap_i64]; omega
theorem getI_at {α : Type} {xs : List α} {i : Int} (h0 : 0 ≤ i) (h : i < xs.length) : getI xs i = some (xs[i.toNat]'(by omega)) := by
  unfold getI
  rw [if_pos h0, List.getElem?_eq_getElem]
theorem getI_nat' {α : Type} {xs : List α} {i : Nat} (h : i < xs.length) : getI xs (i : Int) = some (xs[i]) := by
  rw [getI_at (by omega) (by omega)]; simp
end Go.Proofs.YtcmpcbpdnaodmaaDoor
namespace Go.Proofs.YtcmpcbpdnaodmaaDoor
open Go.RowKit
set_option linter.unusedVariables false
variable {P : Program}
def keepE (s : LS) : List Nat → List (Nat × A)
  | [] => []
  | t :: l => (t, lkE s.es t) :: keepE s l
def pickM (s : LS) : List (Nat × Option Blk) → List (Nat × Option Blk)
  | [] => []
  | (i, some b) :: l => (i, some b) :: pickM s l
  | (i, none) :: l => (i, getM s.ms i) :: pickM s l
def LS.e (s : LS) (nw : List (Nat × A)) (kp : List Nat) (mm : List (Nat × Option Blk)) : LS := ⟨s.n, nw ++ keepE s kp, pickM s mm⟩
def c0 (G : List Nat) : CV := ⟨G, [], [], [], [], [], []⟩
def dropE (ks : List Nat) : List (Nat × A) → List (Nat × A)
  | [] => []
  | (t, a) :: l => match memN ks t with | true => dropE ks l | false => (t, a) :: dropE ks l
def dropM (ks : List Nat) : List (Nat × Option Blk) → List (Nat × Option Blk)
  | [] => []
  | (i, b) :: l => match memN ks i with | true => dropM ks l | false => (i, b) :: dropM ks l
def isBx : Nat × Option Blk → Bool
  | (_, some (.box _ _)) => true
  | _ => false
def boxesM : List (Nat × Option Blk) → List (Nat × Option Blk)
  | [] => []
  | p :: l => match isBx p with | true => p :: boxesM l | false => boxesM l
def restM : List (Nat × Option Blk) → List (Nat × Option Blk)
  | [] => []
  | p :: l => match isBx p with | true => restM l | false => p :: restM l
def LS.d (s : LS) (nw : List (Nat × A)) (dr : List Nat) (nb : List (Nat × Blk)) (dm : List Nat) : LS :=
  ⟨s.n, nw ++ dropE (nw.map (·.1) ++ dr) s.es, boxesM (dropM (nb.map (·.1) ++ dm) s.ms ++ someMs nb) ++ restM (dropM (nb.map (·.1) ++ dm) s.ms ++ someMs nb)⟩
section
variable {α : Type} {p : Prop} [Decidable p] {b : Bool} {X Y : Option α} {r : α} {G : Prop}
variable {st : St} {c : Operand} {x y : Code} {Q : Exit → St → Prop}
end
theorem W_frz {c : Code} {s : LS} {Q : Exit → St → Prop} (ids : List Nat) (h : W P c (s.frzs ids).st Q) : W P c s.st Q := fun C a w hP ⟨L, hs⟩ => by
  rw [frzs_st ids s] at h
  refine wp_mono (h C a w hP ⟨L, hs.frzs ids⟩) fun e a' w' ⟨st', hn, hq, hs'⟩ => ⟨st', by rw [hn, frzs_n], hq, hs'⟩
def rvF (P : Program) (f : FuncId) : List ResultVar := match P.funcs[f]? with | some fn => fn.results.toList | none => []
def ntF (P : Program) (f : FuncId) : Nat := match P.funcs[f]? with | some fn => fn.ntmps | none => 0
def okFn (P : Program) (f : FuncId) (n : Nat) : Bool := match P.funcs[f]? with | some fn => (match fn.body with | some _ => plainFn P f && Nat.ble n fn.ntmps | none => false) | none => false
theorem oinj {α : Type} {x y : α} (h : some x = some y) : x = y := Option.some.inj h
section
variable {α : Type} {b : Nat} {xs ys z : List α} {i : Int} {x y : α}
def appD (b : Nat) (xs ys : List α) : Option (List α) := if AppOb b (xs.length + ys.length) then some (xs ++ ys) else none
theorem appD_some (h : appD b xs ys = some z) : AppOb b (xs.length + ys.length) ∧ xs ++ ys = z := by
  unfold appD at h
  split at h
  · rename_i h1; exact ⟨h1, oinj h⟩
  · cases h
theorem apd_a (c : α → List T) (h : appD b xs ys = some z) : AppOb b ((xs.map c).length + (ys.map c).length) := ap_obx c (appD_some h).1
theorem apd_r (c : α → List T) (h : appD b xs ys = some z) : RowOb (xs.map c ++ ys.map c) (z.map c) := (appD_some h).2 ▸ app_obx c xs ys
theorem ape_a (c : α → List T) (h : appD b [] ys = some z) : AppOb b (ys.map c).length := by
  have h1 := (appD_some h).1
  rw [List.length_nil, Nat.zero_add] at h1
  exact ap0_obx c h1
theorem ape_r (c : α → List T) (h : appD b [] ys = some z) : RowOb (ys.map c) (z.map c) := (appD_some h).2 ▸ row_rfl _
end
end Go.Proofs.YtcmpcbpdnaodmaaDoor
namespace Go.Proofs.YtcmpcbpdnaodmaaDoor
open Go.RowKit
set_option linter.unusedVariables false
set_option maxRecDepth 100000
set_option maxHeartbeats 4000000
def c_u8 (n : Int) : List T := [tI .u8 n]
def c_str (x : List UInt8) : List T := [tS x]
def c_L {α : Type} (k : Nat) (c : α → List T) (x : List α) : List T := [.sl k (x.map c)]
structure GApiIns where
  Op : Int
  A : Int
  Line : Int
deriving DecidableEq, Inhabited
def c_GApiIns (x : GApiIns) : List T := [tI .u8 x.Op, tI .i64 x.A, tI .i64 x.Line]
structure GApiEntry where
  At : Int
  Len : Int
  Params : Int
  Slots : Int
  Result : Int
deriving DecidableEq, Inhabited
def c_GApiEntry (x : GApiEntry) : List T := [tI .i64 x.At, tI .i64 x.Len, tI .i64 x.Params, tI .i64 x.Slots, tI .i64 x.Result]
structure GApiCode where
  Ins : (List GApiIns)
  Fns : (List GApiEntry)
  Strs : (List (List UInt8))
deriving DecidableEq, Inhabited
def c_GApiCode (x : GApiCode) : List T := [.sl 3 (x.Ins.map c_GApiIns), .sl 5 (x.Fns.map c_GApiEntry), .sl 1 (x.Strs.map c_str)]
def b_GApiCode (x : GApiCode) : List A := [.t (.sl 3 (x.Ins.map c_GApiIns)), .t (.sl 5 (x.Fns.map c_GApiEntry)), .t (.sl 1 (x.Strs.map c_str))]
def e_GApiCode (x : GApiCode) : A := .agg (b_GApiCode x)
structure GCodeWriter where
  b_ : (List Int)
deriving DecidableEq, Inhabited
def c_GCodeWriter (x : GCodeWriter) : List T := [.sl 1 (x.b_.map c_u8)]
structure GR01D where
  e0_ : Int
  e1_ : Int
  e2_ : Int
  e3_ : Int
  e4_ : Int
  e5_ : Int
  e6_ : Int
  e7_ : Int
deriving DecidableEq, Inhabited
def c_GR01D (x : GR01D) : List T := [tI .i64 x.e0_, tI .i64 x.e1_, tI .i64 x.e2_, tI .i64 x.e3_, tI .i64 x.e4_, tI .i64 x.e5_, tI .i64 x.e6_, tI .i64 x.e7_]
end Go.Proofs.YtcmpcbpdnaodmaaDoor
namespace Go.Proofs.YtcmpcbpdnaodmaaDoor
open Go.RowKit
set_option linter.unusedVariables false
set_option maxRecDepth 100000
set_option maxHeartbeats 4000000
def R_r01_Text (a0 : Int) (r : (List UInt8)) : Prop := FnP Tryd.prog 19 [aI .i64 a0] (aS r)
end Go.Proofs.YtcmpcbpdnaodmaaDoor
