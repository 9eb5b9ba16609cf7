/- Parts of the proof. -/
import Derived.Test.YtblikpgdepjhdaaHaHpRead
namespace Go.Proofs.Ytblikpgdepjhdaa
open Go.RowKit
set_option linter.unusedVariables false
def GHeapHeap.addR (H : GHeapHeap) (o : GApiObj) : GApiValue × Bool × GHeapHeap :=
  if H.room - H.cells < objSize o.Kind o.Text o.Vals.length then (⟨0, 0, 0, 0⟩, false, H) else (⟨o.Kind, ((H.l.length + 1 : Nat) : Int), 0, 0⟩, true, H.plus o)
def HeapOut (H' : GHeapHeap) (M own : Nat → Prop) (b : Nat) (w w' : World) : Prop :=
  ∃ own', (∃ pls ps lv, HeapAt H' w' (fun k => M k ∨ own' k) own' b pls ps lv) ∧ Mod (fun k => k = b ∨ own k) w w' ∧ ∀ k, own' k → own k ∨ (w.heap.size ≤ k ∧ k < w'.heap.size)
theorem HeapOut.refl {H : GHeapHeap} {M own : Nat → Prop} {b : Nat} {pls : List OPl} {ps : List Value} {lv : Value} {w w' : World} (h : HeapAt H w M own b pls ps lv) (hb : Below w.heap.size w w') (ho : ∀ k, own k → M k) : HeapOut H M own b w w' :=
  ⟨own, ⟨pls, ps, lv, (h.below hb).ext (Ext.refl _ _) (fun k _ hm => hm.elim id (ho k)) rfl fun _ _ => rfl⟩, (Mod.of_below hb).mono fun k hk hs => absurd hk (by omega), fun k hk => .inl hk⟩
theorem HeapOut.below {H' : GHeapHeap} {M own : Nat → Prop} {b : Nat} {w w' w'' : World} (h : HeapOut H' M own b w w') (hb : Below w'.heap.size w' w'') : HeapOut H' M own b w w'' := by
  obtain ⟨own', ⟨pls, ps, lv, hat⟩, hm, ho⟩ := h
  exact ⟨own', ⟨pls, ps, lv, hat.below hb⟩, hm.step (Mod.of_below hb) fun i hi hs => absurd hs (by have := hm.size; omega), fun k hk => (ho k hk).imp id fun h => ⟨h.1, Nat.lt_of_lt_of_le h.2 hb.size⟩⟩
def HeapMid (H' : GHeapHeap) (M own : Nat → Prop) (b : Nat) (w w1 w' : World) (g : Option Nat) : Prop :=
  ∃ own', (∃ pls ps lv, HeapAt H' w' (fun k => (M k ∨ w.heap.size ≤ k) ∨ own' k) own' b pls ps lv) ∧ Mod (fun k => k = b ∨ own k) w1 w' ∧ ∀ k, own' k → own k ∨ g = some k ∨ (w1.heap.size ≤ k ∧ k < w'.heap.size)
theorem HeapMid.mod {H' : GHeapHeap} {M own : Nat → Prop} {b : Nat} {w w1 w' : World} {g : Option Nat} (h : HeapMid H' M own b w w1 w' g) : Mod (fun k => k = b ∨ own k) w1 w' := by
  obtain ⟨_, _, hm, _⟩ := h
  exact hm
theorem HeapMid.out {H' : GHeapHeap} {M own : Nat → Prop} {b : Nat} {w w1 w' w'' : World} {g : Option Nat} {X : Nat → Prop} (h : HeapMid H' M own b w w1 w' g) (hb : Below w.heap.size w w1) (hlt : ∀ k, M k → k < w.heap.size) (hMb : M b) (hMo : ∀ k, own k → M k)
    (hg : ∀ k, g = some k → w.heap.size ≤ k ∧ k < w1.heap.size) (hx : Mod X w' w'') (hX : ∀ k, X k → w.heap.size ≤ k ∧ k < w1.heap.size ∧ g ≠ some k) : HeapOut H' M own b w w'' := by
  obtain ⟨own', ⟨pls, ps, lv, hat⟩, hm, ho⟩ := h
  have hn : ∀ k, X k → ¬ own' k := fun k hk hk' => by
    obtain ⟨x1, x2, x3⟩ := hX k hk
    rcases ho k hk' with h | h | h
    · have := hlt k (hMo k h); omega
    · exact x3 h
    · omega
  have hs := hb.size
  have hs2 := hm.size
  have hs3 := hx.size
  refine ⟨own', ⟨pls, ps, lv, hat.ext ⟨hx.size, fun k hk hM => hx.block k hk fun hX' => hM (.inl (.inr (hX k hX').1))⟩ (fun k _ hk => hk.elim (fun x => .inl (.inl x)) .inr) (hx.block b (has_lt hat.head) fun hX' => by have := (hX b hX').1; have := hlt b hMb; omega) fun k hk => hx.block k (hat.lt hk) fun hX' => hn k hX' hk⟩, ?_, fun k hk => ?_⟩
  · exact (((Mod.of_below hb).mono (T := fun k => k = b ∨ own k) fun k hk hs => absurd hk (by omega)).step hm fun i _ h => h).step hx fun i hi h => absurd hi (by have := (hX i h).1; omega)
  · rcases ho k hk with h | h | h
    · exact .inl h
    · have := hg k h; exact .inr (by omega)
    · exact .inr (by omega)
theorem mod_set4 (w : World) (b : Nat) (x0 x1 x2 x3 : Value) : Mod (fun k => k = b) w ((((w.setCell ⟨b, 0, none⟩ x0).setCell ⟨b, 1, none⟩ x1).setCell ⟨b, 2, none⟩ x2).setCell ⟨b, 3, none⟩ x3) :=
  ((((Mod.refl (fun k => k = b) w).setCell ⟨b, 0, none⟩ x0 (.inr rfl)).setCell ⟨b, 1, none⟩ x1 (.inr rfl)).setCell ⟨b, 2, none⟩ x2 (.inr rfl)).setCell ⟨b, 3, none⟩ x3 (.inr rfl)
theorem heap_addR {H : GHeapHeap} {M own : Nat → Prop} {b : Nat} {pls : List OPl} {ps : List Value} {lv : Value} {w w1 : World} (o : GApiObj) (v : Value) (g : Option Nat)
    (h : HeapAt H w M own b pls ps lv) (hlt : ∀ k, M k → k < w.heap.size) (hMb : M b) (hMo : ∀ k, own k → M k) (hb : Below w.heap.size w w1) (hv : valsAt w1 v o.Vals g) (hg : ∀ k, g = some k → w.heap.size ≤ k) (hsz : 1 ≤ objSize o.Kind o.Text o.Vals.length) :
    Calls Try.prog 32 #[.pointer (some ⟨b, 0, none⟩), .agg #[.int .u8 o.Kind, .int .i64 o.Of, .string (mkS o.Text), v]] w1 fun e w' =>
      e = .returned (.tuple #[.agg #[.int .u8 (H.addR o).1.Kind, .int .i64 (H.addR o).1.N, .int .i64 (H.addR o).1.Re, .int .i64 (H.addR o).1.Im], .bool (H.addR o).2.1]) ∧ HeapMid (H.addR o).2.2 M own b w w1 w' g := by
  have h1 : HeapAt H w1 (fun k => M k ∨ w.heap.size ≤ k) own b pls ps lv := h.ext ⟨hb.size, fun k hk _ => hb.block k hk⟩ (fun k hk hm => hm.elim id fun x => by omega) (hb.block b (has_lt h.head)) fun k hk => hb.block k (h.lt hk)
  refine (heap_add H _ own b pls ps lv o v g w1 h1 hv (by omega)).mono ?_
  rintro e w' (⟨c, rfl, hb'⟩ | ⟨c, rfl, p, a', c', had⟩)
  · have e1 : H.addR o = (⟨0, 0, 0, 0⟩, false, H) := if_pos c
    rw [e1]
    exact ⟨rfl, own, ⟨pls, ps, lv, (h1.below hb').ext (Ext.refl _ _) (fun k _ hm => hm.elim id fun x => .inl (hMo k x)) rfl fun _ _ => rfl⟩, (Mod.of_below hb').mono fun k hk hs => absurd hk (by omega), fun k hk => .inl hk⟩
  · have e1 : H.addR o = (⟨o.Kind, ((H.l.length + 1 : Nat) : Int), 0, 0⟩, true, H.plus o) := if_neg c
    rw [e1]
    refine ⟨rfl, ?_⟩
    have hgc : ∀ k, g = some k → k ≠ b ∧ ¬ own k ∧ k < w1.heap.size ∧ (M k ∨ w.heap.size ≤ k) := fun k hk => by
      subst hk
      have hk' := hg k rfl
      have := has_lt h.head
      exact ⟨by omega, fun hx => by have := h.lt hx; omega, owns_lt hv.1 hv.2, .inr hk'⟩
    obtain ⟨own', hat, ho⟩ := added_heap h1 hv had hsz c hgc (fun k hk => .inl (hMo k hk)) (.inl hMb)
    refine ⟨own', ⟨_, _, _, hat⟩, had.mod.mono fun k _ hs => hs.imp id fun hl => ?_, ho⟩
    exact (h.owns k).2 (List.mem_append.2 (.inl (by simp [hl])))
theorem heap_addR2 {H : GHeapHeap} {M own : Nat → Prop} {b : Nat} {pls : List OPl} {ps : List Value} {lv : Value} {w w1 : World} {o : GApiObj} {v : Value} {g : Option Nat} {rk rn rre rim : Int} {rok : Bool} {rH : GHeapHeap} (hr : H.addR o = (⟨rk, rn, rre, rim⟩, rok, rH))
    (h : HeapAt H w M own b pls ps lv) (hlt : ∀ k, M k → k < w.heap.size) (hMb : M b) (hMo : ∀ k, own k → M k) (hb : Below w.heap.size w w1) (hv : valsAt w1 v o.Vals g) (hg : ∀ k, g = some k → w.heap.size ≤ k) (hsz : 1 ≤ objSize o.Kind o.Text o.Vals.length) :
    Calls Try.prog 32 #[.pointer (some ⟨b, 0, none⟩), .agg #[.int .u8 o.Kind, .int .i64 o.Of, .string (mkS o.Text), v]] w1 fun e w' =>
      e = .returned (.tuple #[.agg #[.int .u8 rk, .int .i64 rn, .int .i64 rre, .int .i64 rim], .bool rok]) ∧ HeapMid rH M own b w w1 w' g := by
  have A := heap_addR o v g h hlt hMb hMo hb hv hg hsz
  rw [hr] at A
  exact A
def GHeapHeap.str (H : GHeapHeap) (s : List UInt8) : GApiValue × Bool × GHeapHeap := if s = [] then (⟨3, 0, 0, 0⟩, true, H) else H.addR ⟨3, 0, s, []⟩
theorem objSize3 (s : List UInt8) (n : Nat) (h : s.length < 4611686018427387904) : 1 ≤ objSize 3 s n := by
  unfold objSize
  rw [if_pos rfl]
  have e : RowKit.wrap64 ((s.length : Int) + 7) = (s.length : Int) + 7 := by unfold RowKit.wrap64; omega
  rw [e]
  have e2 : ((s.length : Int) + 7).tdiv 8 = ((s.length : Int) + 7) / 8 := Int.tdiv_eq_ediv_of_nonneg (by omega)
  rw [e2]
  unfold RowKit.wrap64
  omega
set_option maxHeartbeats 8000000 in
set_option maxRecDepth 100000 in
theorem heap_Str {H : GHeapHeap} {M own : Nat → Prop} {b : Nat} {pls : List OPl} {ps : List Value} {lv : Value} {w : World} (s : List UInt8)
    (h : HeapAt H w M own b pls ps lv) (hlt : ∀ k, M k → k < w.heap.size) (hMb : M b) (hMo : ∀ k, own k → M k) (hs : s.length < 4611686018427387904) :
    Calls Try.prog 22 #[.pointer (some ⟨b, 0, none⟩), .string (mkS s)] w fun e w' =>
      e = .returned (.tuple #[.agg (vcells (H.str s).1).toArray, .bool (H.str s).2.1]) ∧ HeapOut (H.str s).2.2 M own b w w' := by
  replace hlt := Lib.hid hlt
  replace hMb := Lib.hid hMb
  replace hMo := Lib.hid hMo
  by_cases hn : s = []
  · subst hn
    go_enter Try.func22, Try.ntmps22
    go_wp2_with fail
    refine ret_row_tmp (p := 4) (u := 5) (by rfl) w.heap.size 46 _ (0, 0) _ (by rfl) (has_new w w.heap.size _ _ rfl) Try.underlying46 rfl (by kernel_rfl) (by rfl) (.bool true) (by rfl) ?_
    exact ⟨rfl, HeapOut.refl h (by repeat' (first | exact Below.refl _ _ | assumption | (refine thenB ?_ (by assumption)) | (refine belowN ?_ _) | (refine Below.alloc ?_ (by first | simp; done | (simp; omega) | omega) _) | (refine below_setRow ?_ (by first | simp; done | (simp; omega) | omega) _) | (refine Below.setCell ?_ (by first | simp; done | (simp; omega) | omega) _))) hMo.out⟩
  · have e1 : H.str s = H.addR ⟨3, 0, s, []⟩ := if_neg hn
    have hz : s.isEmpty = false := by simpa using hn
    rw [e1]
    clear e1
    generalize hr : H.addR ⟨3, 0, s, []⟩ = r
    obtain ⟨⟨rk, rn, rre, rim⟩, rok, rH⟩ := r
    replace hr := Lib.hid hr
    go_enter Try.func22, Try.ntmps22
    go_wp2_with (go_at_call 32; go_must (refine (heap_addR2 (v := .slice none 0 0) (g := none) hr.out h hlt.out hMb.out hMo.out ((Below.refl _ w).alloc (Nat.le_refl _) _) ⟨rfl, none, 0, by simp [maxLen], rfl⟩ (fun k hk => by cases hk) (objSize3 _ _ hs)).mono ?_; rintro e w1 ⟨rfl, hmid⟩; have N1 := has_mod (has_new w w.heap.size _ _ rfl) hmid.mod (fun hx => hx.elim (fun e => absurd (hlt.out _ hMb.out) (by omega)) (fun e => absurd (hlt.out _ (hMo.out _ e)) (by omega))); have nc1 := has_cell N1; have nf1 := has_free N1; have ns1 := has_lt N1))
    have N2 := has_set_same (has_set_same (has_set_same (has_set_same N1 0 (.int .u8 rk)) 1 (.int .i64 rn)) 2 (.int .i64 rre)) 3 (.int .i64 rim)
    refine ret_row_tmp (p := 4) (u := 5) (by rfl) w.heap.size 46 _ (0, 0) _ (by rfl) N2 Try.underlying46 rfl (by kernel_rfl) (by rfl) (.bool rok) (by rfl) ?_
    exact ⟨rfl, hmid.out (X := fun k => k = w.heap.size) ((Below.refl _ w).alloc (Nat.le_refl _) _) hlt.out hMb.out hMo.out (fun k hk => by cases hk) (mod_set4 _ _ _ _ _ _) fun k hk => ⟨by omega, by simp; omega, by simp⟩⟩
end Go.Proofs.Ytblikpgdepjhdaa
