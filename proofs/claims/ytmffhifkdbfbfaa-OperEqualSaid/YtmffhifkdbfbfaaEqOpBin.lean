/- Parts of the proof. -/
import Derived.Test.YtmffhifkdbfbfaaEqOpLaw1
import Derived.Test.YtmffhifkdbfbfaaEqLdLaw
namespace Go.Proofs.Ytmffhifkdbfbfaa
open Go.RowKit
set_option linter.unusedVariables false
set_option maxHeartbeats 2000000
def wr (H : GHeapHeap) : GHindcastref13W := ⟨mr H, [], [], 0, 0⟩
def truthV (b : Bool) : GApiValue := if b = true then ⟨2, 1, 0, 0⟩ else ⟨2, 0, 0, 0⟩
theorem truth_eq (b : Bool) : oper_truth b = some (truthV b) := by cases b <;> rfl
theorem rtruth_eq (b : Bool) : hindcastref13_Truth b = some (truthV b) := by cases b <;> rfl
def Z4 : GApiValue := ⟨0, 0, 0, 0⟩
theorem same_eq (op : Int) (b : Bool) : oper_same op b = some (if op = 6 then (truthV b, true) else if op = 7 then (truthV (!b), true) else (Z4, false)) := by
  unfold oper_same
  rw [truth_eq, truth_eq, obind_some, obind_some]
  split
  · rfl
  · split <;> rfl
theorem cmp_eq (a b : Int) : num_Compare a b = hindcastref13_order a b := by
  unfold num_Compare cmp_Compare_int64 cmp_isNaN_int64 hindcastref13_order
  simp only [decide_true, Bool.not_true, obind_some, Bool.false_eq_true, if_false]
  split
  · rfl
  · split <;> rfl
theorem order_cases (a b : Int) : ∃ c, hindcastref13_order a b = some c ∧ (c = 0 ↔ a = b) := by
  unfold hindcastref13_order
  by_cases h1 : a < b
  · rw [if_pos h1]; exact ⟨_, rfl, by omega⟩
  · rw [if_neg h1]
    by_cases h2 : a > b
    · rw [if_pos h2]; exact ⟨_, rfl, by omega⟩
    · rw [if_neg h2]; exact ⟨_, rfl, by omega⟩
theorem w64_id {a : Int} (h : in64 a) : w64 a = a := wrap64 h.1 h.2
theorem tmod_in {a b : Int} (h : in64 a) : in64 (a.tmod b) := by
  have h1 := Int.natAbs_tmod a b
  have h2 : (a.tmod b).natAbs ≤ a.natAbs := by rw [h1]; exact Nat.mod_le _ _
  have h3 : 0 ≤ a → 0 ≤ a.tmod b := fun h => Int.tmod_nonneg b h
  unfold in64 at *
  by_cases hs : 0 ≤ a
  · have := h3 hs; omega
  · have h4 : a.tmod b ≤ 0 := by
      have := Int.tmod_nonneg b (show 0 ≤ -a by omega)
      rw [Int.neg_tmod] at this; omega
    omega
theorem ints_eq (op a b : Int) (ha : in64 a) (hb : in64 b) : oper_ints op a b = hindcastref13_numbers op a b := by
  obtain ⟨c, hc, _⟩ := order_cases a b
  have hq : ∀ h0 : b ≠ 0, (num_Div a b).bind (fun r => oper_ints_j0 r.2 r.1) = some (⟨1, RowKit.wrap64 (a.tdiv b), 0, 0⟩, 0, true) := fun h0 => by
    unfold num_Div oper_ints_j0 oper_integer
    rw [if_neg h0]
    by_cases h1 : b = -1
    · subst h1
      rw [if_pos rfl, obind_some, if_pos rfl, obind_some, w64_rk, tdiv_neg_one]; simp
    · rw [if_neg h1, if_pos h0, obind_some, if_pos rfl, obind_some, w64_rk]
  have hr : ∀ h0 : b ≠ 0, (num_Rem a b).bind (fun r => oper_ints_j0 r.2 r.1) = some (⟨1, RowKit.wrap64 (a.tmod b), 0, 0⟩, 0, true) := fun h0 => by
    unfold num_Rem oper_ints_j0 oper_integer
    rw [if_neg h0]
    by_cases h1 : b = -1
    · subst h1
      rw [if_pos rfl, obind_some, if_pos rfl, obind_some, tmod_neg_one]; simp [RowKit.wrap64]
    · rw [if_neg h1, if_pos h0, obind_some, if_pos rfl, obind_some, ← w64_rk, w64_id (tmod_in ha)]
  have hd : ∀ op, (op = 4 → (num_Div a b).bind (fun r => oper_ints_j0 r.2 r.1) = hindcastref13_numbers_j0 op a b) ∧ (op ≠ 4 → (num_Rem a b).bind (fun r => oper_ints_j0 r.2 r.1) = hindcastref13_numbers_j0 op a b) := fun op => by
    unfold hindcastref13_numbers_j0
    by_cases h0 : b = 0
    · subst h0
      rw [if_pos rfl]
      exact ⟨fun _ => rfl, fun _ => rfl⟩
    · rw [if_neg h0]
      unfold xhindcastref01_Div hindcastref13_number
      rw [if_pos ⟨ha, hb, h0⟩, obind_some]
      exact ⟨fun e => by rw [if_pos e, hq h0]; rfl, fun e => by rw [if_neg e, hr h0]; rfl⟩
  unfold oper_ints hindcastref13_numbers
  rw [cmp_eq, hc, obind_some, xOf, obind_some, xOf, obind_some, obind_some]
  rw [xPlus, xMinus, obind_some, obind_some, xPlus, xTimes, obind_some, obind_some, xNumber, xNumber, xNumber, obind_some, obind_some, obind_some]
  simp only [truth_eq, rtruth_eq, obind_some]
  by_cases e1 : op = 1
  · rw [if_pos e1, if_pos e1]; unfold num_Add oper_ints_j0 oper_integer hindcastref13_number; rw [w64_rk]; rfl
  rw [if_neg e1, if_neg e1]
  by_cases e2 : op = 2
  · rw [if_pos e2, if_pos e2]; unfold num_Sub oper_ints_j0 oper_integer hindcastref13_number; rw [w64_rk]; rfl
  rw [if_neg e2, if_neg e2]
  by_cases e3 : op = 3
  · rw [if_pos e3, if_pos e3]; unfold num_Mul oper_ints_j0 oper_integer hindcastref13_number; rw [w64_rk]; rfl
  rw [if_neg e3, if_neg e3]
  by_cases e4 : op = 4
  · rw [if_pos e4, if_pos e4]; exact (hd op).1 e4
  rw [if_neg e4, if_neg e4]
  by_cases e5 : op = 5
  · rw [if_pos e5, if_pos e5]; exact (hd op).2 e4
  rw [if_neg e5, if_neg e5]
  by_cases e6 : op = 6
  · subst e6; rfl
  by_cases e7 : op = 7
  · subst e7; rfl
  simp only [e6, e7, if_false]
theorem compsSome (op : Int) (a b : GApiComp) : ∃ c1 n c2 c3, hindcastref02_Add a b = some c1 ∧ hindcastref02_Neg b = some n ∧ hindcastref02_Add a n = some c2 ∧ hindcastref02_Mul a b = some c3 := by
  have h3 : ∀ n, ∃ c, hindcastref02_Add a n = some c := fun n => by
    unfold hindcastref02_Add; rw [rPart_eq, obind_some, rPart_eq, obind_some, rPart_eq, obind_some, rPart_eq, obind_some, rOf_eq, obind_some]; exact ⟨_, rfl⟩
  have h2 : ∃ n, hindcastref02_Neg b = some n := by
    unfold hindcastref02_Neg; rw [rPart_eq, obind_some, rPart_eq, obind_some, rOf_eq, obind_some]; exact ⟨_, rfl⟩
  have h4 : ∃ c, hindcastref02_Mul a b = some c := by
    unfold hindcastref02_Mul; rw [rOf_eq, obind_some, rOf_eq, obind_some, rOf_eq, obind_some]; exact ⟨_, rfl⟩
  obtain ⟨n, e⟩ := h2
  obtain ⟨c1, e1⟩ := h3 b
  obtain ⟨c2, e2⟩ := h3 n
  obtain ⟨c3, e3⟩ := h4
  exact ⟨c1, n, c2, c3, e1, e, e2, e3⟩
def eqv (H : GHeapHeap) (a b : GApiValue) : Bool × Bool :=
  if (5 ≤ a.Kind ∧ a.Kind ≤ 7) ∧ 5 ≤ b.Kind ∧ b.Kind ≤ 7 then (true, decide (a.Kind = b.Kind) && (decide (a.Kind = 5) || decide (a.N = b.N)))
  else if a.Kind ≠ b.Kind then (false, false)
  else if a.Kind = 1 then (true, decide (a.N = b.N))
  else if a.Kind = 2 then (true, decide (a.N = 0) == decide (b.N = 0))
  else if a.Kind = 3 then ((H.text a.Kind a.N).2 && (H.text b.Kind b.N).2, (H.text a.Kind a.N).2 && (H.text b.Kind b.N).2 && decide ((H.text a.Kind a.N).1 = (H.text b.Kind b.N).1))
  else if a.Kind = 4 then (true, decide (sx a.Re 24 = sx b.Re 24) && decide (sx a.Im 24 = sx b.Im 24))
  else (false, false)
theorem equal_eq {H : GHeapHeap} (h : HInv H) (a b : GApiValue) : hindcastref13_W_equal (wr H) a b = some (eqv H a b) := by
  have hj0 : ¬ ((5 ≤ a.Kind ∧ a.Kind ≤ 7) ∧ 5 ≤ b.Kind ∧ b.Kind ≤ 7) → hindcastref13_W_equal_j0 (wr H) a b = some (eqv H a b) := fun hn => by
    unfold hindcastref13_W_equal_j0 eqv
    simp only [hn, if_false]
    by_cases ck : a.Kind = b.Kind
    · simp only [ck, if_true, ne_eq, not_true_eq_false, if_false]
      by_cases c1 : b.Kind = 1
      · simp only [c1, if_true]
      by_cases c2 : b.Kind = 2
      · simp only [c2, if_true, show ¬ (2 : Int) = 1 by decide, if_false]
      by_cases c3 : b.Kind = 3
      · simp only [c3, show ¬ (3 : Int) = 1 by decide, show ¬ (3 : Int) = 2 by decide, if_false, if_true]
        show ((hindcastref11_H_Text (mr H) a).bind fun r => (hindcastref11_H_Text (mr H) b).bind fun q => _) = _
        rw [text_spec h, obind_some, text_spec h, obind_some, ck, c3]
        cases (H.text 3 a.N).2 <;> cases (H.text 3 b.N).2 <;> simp
      simp only [c1, c2, c3, if_false]
      by_cases c4 : b.Kind = 4
      · simp only [c4, if_true, rcomp_eq, obind_some]
      · simp only [c4, if_false]
    · simp only [ck, if_false, ne_eq, not_false_eq_true, if_true]
  unfold hindcastref13_W_equal hindcastref13_W_equal_j2 hindcastref13_W_equal_j1
  by_cases a5 : a.Kind ≥ 5
  · by_cases a7 : a.Kind ≤ 7
    · by_cases b5 : b.Kind ≥ 5
      · by_cases b7 : b.Kind ≤ 7
        · rw [if_pos a5, if_pos b5, decide_eq_true a7, if_pos rfl, decide_eq_true b7, if_pos rfl]
          unfold eqv
          rw [if_pos (show (5 ≤ a.Kind ∧ a.Kind ≤ 7) ∧ 5 ≤ b.Kind ∧ b.Kind ≤ 7 from ⟨⟨a5, a7⟩, b5, b7⟩)]
          by_cases ck : a.Kind = b.Kind
          · rw [if_pos ck]
            by_cases c5 : a.Kind = 5
            · have c5' : b.Kind = 5 := ck ▸ c5
              rw [if_pos c5]; simp [ck, c5']
            · rw [if_neg c5]; simp [ck]
              intro e; exact absurd (ck ▸ e) c5
          · rw [if_neg ck]; simp [ck]
        · rw [if_pos a5, if_pos b5, decide_eq_true a7, if_pos rfl, decide_eq_false b7, if_neg (by decide)]
          exact hj0 fun h => b7 h.2.2
      · rw [if_pos a5, if_neg b5, decide_eq_true a7, if_pos rfl, if_neg (by decide)]
        exact hj0 fun h => b5 h.2.1
    · rw [if_pos a5, decide_eq_false a7]
      split <;> rw [if_neg (by decide)] <;> exact hj0 fun h => a7 h.1.2
  · rw [if_neg a5]
    split <;> rw [if_neg (by decide)] <;> exact hj0 fun h => a5 h.1.1
theorem ref_eq (a : GApiValue) : oper_ref a = some (decide (5 ≤ a.Kind ∧ a.Kind ≤ 7)) := by
  unfold oper_ref
  by_cases c5 : a.Kind = 5
  · rw [if_pos c5]; simp [c5]
  rw [if_neg c5]
  by_cases c6 : a.Kind = 6
  · rw [if_pos c6]; simp [c6]
  rw [if_neg c6]
  refine congrArg some (decide_eq_decide.2 ?_)
  omega
theorem bin_eqop {H : GHeapHeap} (h : HInv H) (op : Int) (a b : GApiValue) (hop : op = 6 ∨ op = 7) (ha : in64 a.N) (hb : in64 b.N) :
    oper_Bin H op a b = some (if (eqv H a b).1 = true then (truthV ((eqv H a b).2 == decide (op = 6)), 0, true, H) else (Z4, 0, false, H)) := by
  have hs : ∀ is, oper_same op is = some (truthV (is == decide (op = 6)), true) := fun is => by
    rw [same_eq]; rcases hop with rfl | rfl <;> cases is <;> rfl
  have n1 : ¬ op = 1 := by omega
  have n2 : ¬ op = 2 := by omega
  have n3 : ¬ op = 3 := by omega
  have hj1 : ¬ ((5 ≤ a.Kind ∧ a.Kind ≤ 7) ∧ 5 ≤ b.Kind ∧ b.Kind ≤ 7) → oper_Bin_j1 op a b H = some (if (eqv H a b).1 = true then (truthV ((eqv H a b).2 == decide (op = 6)), 0, true, H) else (Z4, 0, false, H)) := fun hn => by
    unfold oper_Bin_j1 oper_Bin_j2 eqv
    simp only [hn, if_false]
    by_cases ck : a.Kind = b.Kind
    · simp only [ck, if_true, ne_eq, not_true_eq_false, if_false]
      by_cases c1 : b.Kind = 1
      · simp only [c1, if_true]
        obtain ⟨c, hc, h0⟩ := order_cases a.N b.N
        unfold oper_ints
        rw [cmp_eq, hc, obind_some]
        have e0 : decide (c = 0) = decide (a.N = b.N) := decide_eq_decide.2 h0
        rcases hop with rfl | rfl
        · simp only [e0, truth_eq, obind_some]; simp
        · simp only [e0, truth_eq, obind_some]; simp
      by_cases c2 : b.Kind = 2
      · simp only [c2, if_true, show ¬ (2 : Int) = 1 by decide, if_false, hs, obind_some]
        cases decide (a.N = 0) <;> cases decide (b.N = 0) <;> rfl
      by_cases c4 : b.Kind = 4
      · simp only [c4, show ¬ (4 : Int) = 1 by decide, show ¬ (4 : Int) = 2 by decide, show ¬ (4 : Int) = 3 by decide, if_false, if_true, ocomp_eq, obind_some]
        unfold oper_comps
        simp only [n1, n2, n3, if_false, hs, obind_some]
      simp only [c1, c2, c4, if_false]
      by_cases c3 : b.Kind = 3
      · simp only [c3, if_true]
        unfold xheap_Heap_Text oper_Bin_j0 oper_Bin_j2
        simp only [obind_some, n1, if_false, hs, ck, c3]
        cases (H.text 3 a.N).2 <;> cases (H.text 3 b.N).2 <;> simp [Z4]
      · simp only [c3, if_false]; rfl
    · simp only [ck, if_false, ne_eq, not_false_eq_true, if_true]; rfl
  unfold oper_Bin
  rw [ref_eq, obind_some, ref_eq, obind_some]
  by_cases ra : 5 ≤ a.Kind ∧ a.Kind ≤ 7
  · by_cases rb : 5 ≤ b.Kind ∧ b.Kind ≤ 7
    · rw [decide_eq_true ra, if_pos rfl, decide_eq_true rb, if_pos rfl]
      simp only [hs, obind_some]
      unfold eqv
      rw [if_pos (show (5 ≤ a.Kind ∧ a.Kind ≤ 7) ∧ 5 ≤ b.Kind ∧ b.Kind ≤ 7 from ⟨ra, rb⟩)]
      by_cases ck : a.Kind = b.Kind
      · rw [if_pos ck]
        by_cases cn : a.N = b.N
        · rw [if_pos cn]; simp [ck, cn]
        · rw [if_neg cn]; simp [ck, cn]
      · rw [if_neg ck]; simp [ck]
    · rw [decide_eq_true ra, if_pos rfl, decide_eq_false rb, if_neg (by decide)]
      exact hj1 fun h => rb h.2
  · rw [decide_eq_false ra, if_neg (by decide)]
    exact hj1 fun h => ra h.1
theorem textlen {H : GHeapHeap} (h : HInv H) (k n : Int) : (H.text k n).1.length ≤ 1000000 := by
  unfold GHeapHeap.text
  split
  · simp
  · cases ho : H.at_ k n with
    | none => simp
    | some o =>
      obtain ⟨i, hi, _, e2, _⟩ := at_some ho
      have := (h.small (e2 ▸ List.getElem_mem hi)).2.1
      simp only
      split <;> simp <;> omega
theorem made_eq {H : GHeapHeap} (h : HInv H) (s : List UInt8) (hs : s.length ≤ 1000000000) : ∃ v t H', oper_made H s = some (v, t, true, H') ∧ hindcastref13_W_Str (wr H) s = some (v, t, true, wr H') ∧ HInv H' ∧ (t = 0 ∨ t = 4) := by
  unfold oper_made hindcastref13_W_Str
  rw [strO s hs, obind_some]
  show ∃ v t H', _ ∧ ((hindcastref11_H_Str (mr H) s).bind fun r => _) = _ ∧ _
  rw [str_spec h s hs, obind_some]
  have hi := (str_inv h s hs).1
  by_cases hc : (H.str s).2.1 = true
  · simp only [hc, if_true]
    exact ⟨_, _, _, rfl, rfl, hi, .inl rfl⟩
  · simp only [hc]
    have e : (H.str s).2.2 = H := by
      unfold GHeapHeap.str at hc ⊢
      split at hc
      · exact absurd rfl hc
      · rename_i c
        rw [if_neg c]
        unfold GHeapHeap.addR at hc ⊢
        split at hc
        · rename_i c2; rw [if_pos c2]
        · exact absurd rfl hc
    rw [e]
    exact ⟨_, _, _, rfl, rfl, h, .inr rfl⟩
theorem bin_spec {H : GHeapHeap} (h : HInv H) (op : Int) (a b : GApiValue) (ha : in64 a.N) (hb : in64 b.N) : ∃ v t ok H', oper_Bin H op a b = some (v, t, ok, H') ∧ hindcastref13_W_Bin (wr H) op a b = some (v, t, ok, wr H') ∧ HInv H' ∧ (t = 0 ∨ t = 1 ∨ t = 4) := by
  unfold hindcastref13_W_Bin
  rw [equal_eq h, obind_some]
  by_cases hop : op = 6 ∨ op = 7
  · rw [bin_eqop h op a b hop ha hb]
    have hw : hindcastref13_W_Bin_j0 op (eqv H a b) (wr H) = some (if (eqv H a b).1 = true then (truthV ((eqv H a b).2 == decide (op = 6)), 0, true, wr H) else (Z4, 0, false, wr H)) := by
      unfold hindcastref13_W_Bin_j0
      rw [rtruth_eq, obind_some]
      split <;> rfl
    have e : (if op = 6 then hindcastref13_W_Bin_j0 op (eqv H a b) (wr H) else if op = 7 then hindcastref13_W_Bin_j0 op (eqv H a b) (wr H) else (if a.Kind = 1 then (if b.Kind = 1 then ((hindcastref13_numbers op a.N b.N).bind fun (r7_5 : (GApiValue × Int × Bool)) => (some (r7_5.1, r7_5.2.1, r7_5.2.2, wr H))) else hindcastref13_W_Bin_j2 op (eqv H a b) (wr H) a b) else hindcastref13_W_Bin_j2 op (eqv H a b) (wr H) a b)) = hindcastref13_W_Bin_j0 op (eqv H a b) (wr H) := by
      rcases hop with rfl | rfl <;> rfl
    rw [e, hw]
    split
    · exact ⟨_, _, _, _, rfl, rfl, h, .inl rfl⟩
    · exact ⟨_, _, _, _, rfl, rfl, h, .inl rfl⟩
  have n6 : ¬ op = 6 := fun e => hop (.inl e)
  have n7 : ¬ op = 7 := fun e => hop (.inr e)
  have hs : ∀ is, oper_same op is = some (Z4, false) := fun is => by rw [same_eq, if_neg n6, if_neg n7]
  rw [if_neg n6, if_neg n7]
  unfold oper_Bin
  rw [ref_eq, obind_some, ref_eq, obind_some]
  by_cases rr : (5 ≤ a.Kind ∧ a.Kind ≤ 7) ∧ 5 ≤ b.Kind ∧ b.Kind ≤ 7
  · rw [decide_eq_true rr.1, if_pos rfl, decide_eq_true rr.2, if_pos rfl]
    simp only [hs, obind_some]
    unfold hindcastref13_W_Bin_j2 hindcastref13_W_Bin_j1
    have a1 : ¬ a.Kind = 1 := by omega
    have a3 : ¬ a.Kind = 3 := by omega
    have a4 : ¬ a.Kind = 4 := by omega
    simp only [a1, a3, a4, if_false]
    refine ⟨Z4, 0, false, H, ?_, rfl, h, .inl rfl⟩
    split
    · split <;> rfl
    · rfl
  have ej : ∀ X : Option (GApiValue × Int × Bool × GHeapHeap), (if decide (5 ≤ a.Kind ∧ a.Kind ≤ 7) = true then (if decide (5 ≤ b.Kind ∧ b.Kind ≤ 7) = true then X else oper_Bin_j1 op a b H) else oper_Bin_j1 op a b H) = oper_Bin_j1 op a b H := fun X => by
    by_cases ra : 5 ≤ a.Kind ∧ a.Kind ≤ 7
    · have rb : ¬ (5 ≤ b.Kind ∧ b.Kind ≤ 7) := fun rb => rr ⟨ra, rb⟩
      rw [decide_eq_true ra, if_pos rfl, decide_eq_false rb, if_neg (by decide)]
    · rw [decide_eq_false ra, if_neg (by decide)]
  rw [ej]
  unfold oper_Bin_j1 oper_Bin_j2
  by_cases ck : a.Kind = b.Kind
  · simp only [ck, if_true]
    by_cases c1 : b.Kind = 1
    · simp only [c1, if_true]
      rw [ints_eq op _ _ ha hb]
      have ht : ∃ r, hindcastref13_numbers op a.N b.N = some r ∧ (r.2.1 = 0 ∨ r.2.1 = 1 ∨ r.2.1 = 4) := by
        obtain ⟨c, hc, _⟩ := order_cases a.N b.N
        unfold hindcastref13_numbers hindcastref13_numbers_j0 hindcastref13_number
        simp only [hc, obind_some, xOf, xPlus, xMinus, xTimes, xNumber, rtruth_eq]
        by_cases h0 : b.N = 0
        · simp only [h0, if_true]
          repeat' split
          all_goals exact ⟨_, rfl, by simp⟩
        · have hx : xhindcastref01_Div a.N b.N = some (RowKit.wrap64 (a.N.tdiv b.N), RowKit.wrap64 (a.N.tmod b.N)) := by unfold xhindcastref01_Div; rw [if_pos ⟨ha, hb, h0⟩]
          simp only [h0, if_false, hx, obind_some]
          repeat' split
          all_goals exact ⟨_, rfl, by simp⟩
      obtain ⟨r, hr, ht⟩ := ht
      rw [hr]
      exact ⟨_, _, _, _, rfl, rfl, h, ht⟩
    by_cases c2 : b.Kind = 2
    · simp only [c2, if_true, show ¬ (2 : Int) = 1 by decide, if_false, hs, obind_some]
      unfold hindcastref13_W_Bin_j2 hindcastref13_W_Bin_j1
      simp only [ck, c2, show ¬ (2 : Int) = 4 by decide, show ¬ (2 : Int) = 3 by decide, if_false]
      exact ⟨_, _, _, _, rfl, rfl, h, .inl rfl⟩
    by_cases c4 : b.Kind = 4
    · obtain ⟨d1, n, d2, d3, e1, e2, e3, e4⟩ := compsSome op ⟨sx a.Re 24, sx a.Im 24⟩ ⟨sx b.Re 24, sx b.Im 24⟩
      simp only [c4, show ¬ (4 : Int) = 1 by decide, show ¬ (4 : Int) = 2 by decide, show ¬ (4 : Int) = 3 by decide, if_false, if_true, ocomp_eq, obind_some]
      unfold oper_comps hindcastref13_W_Bin_j2 hindcastref13_W_Bin_j1 oper_value hindcastref13_value
      rw [gAdd_eq, gSub_eq, gMul_eq]
      simp only [ck, c4, if_true, rcomp_eq, obind_some, e1, e2, e3, e4, hs, show ¬ (4 : Int) = 3 by decide, if_false]
      by_cases o1 : op = 1
      · simp only [o1, if_true]; exact ⟨_, _, _, _, rfl, rfl, h, .inl rfl⟩
      by_cases o2 : op = 2
      · simp only [o2, if_true, if_false, show ¬ (2 : Int) = 1 by decide, obind_some]; exact ⟨_, _, _, _, rfl, rfl, h, .inl rfl⟩
      by_cases o3 : op = 3
      · simp only [o3, if_true, if_false, show ¬ (3 : Int) = 1 by decide, show ¬ (3 : Int) = 2 by decide, obind_some]; exact ⟨_, _, _, _, rfl, rfl, h, .inl rfl⟩
      · simp only [o1, o2, o3, if_false, obind_some]; exact ⟨_, _, _, _, rfl, rfl, h, .inl rfl⟩
    simp only [c1, c2, c4, if_false]
    unfold hindcastref13_W_Bin_j2 hindcastref13_W_Bin_j1
    simp only [ck, c4, if_false]
    by_cases c3 : b.Kind = 3
    · simp only [c3, if_true]
      have hmay : (eqv H a b).1 = ((H.text 3 a.N).2 && (H.text 3 b.N).2) := by
        unfold eqv
        rw [if_neg rr]
        simp only [if_false, ck, c3, ne_eq, not_true_eq_false, show ¬ (3 : Int) = 1 by decide, show ¬ (3 : Int) = 2 by decide, if_true]
      rw [hmay]
      have l1 := textlen h 3 a.N
      have l2 := textlen h 3 b.N
      have ea : hindcastref11_H_Text (wr H).H a = some (H.text 3 a.N) := by have := text_spec h a; rw [ck, c3] at this; exact this
      have eb : hindcastref11_H_Text (wr H).H b = some (H.text 3 b.N) := by have := text_spec h b; rw [c3] at this; exact this
      rw [ea, eb]
      unfold xheap_Heap_Text oper_Bin_j0 oper_Bin_j2
      rw [ck, c3, obind_some, obind_some, obind_some, obind_some]
      cases t1 : (H.text 3 a.N).2 with
      | false => simp only [Bool.false_and, Bool.false_eq_true, if_false]; exact ⟨_, _, _, _, rfl, rfl, h, .inl rfl⟩
      | true =>
        cases t2 : (H.text 3 b.N).2 with
        | false => simp only [Bool.and_false, Bool.false_eq_true, if_false, if_true]; exact ⟨_, _, _, _, rfl, rfl, h, .inl rfl⟩
        | true =>
          simp only [Bool.and_true, if_true]
          by_cases o1 : op = 1
          · have hc : CatOb (H.text 3 a.N).1 (H.text 3 b.N).1 := by unfold CatOb; omega
            simp only [o1, if_true, hc]
            obtain ⟨v, t, H', m1, m2, m3, m4⟩ := made_eq h ((H.text 3 a.N).1 ++ (H.text 3 b.N).1) (by simp; omega)
            rw [m1, m2]
            exact ⟨_, _, _, _, rfl, rfl, m3, m4.elim .inl fun e => .inr (.inr e)⟩
          · simp only [o1, if_false, hs, obind_some]; exact ⟨_, _, _, _, rfl, rfl, h, .inl rfl⟩
    · simp only [c3, if_false]; exact ⟨_, _, _, _, rfl, rfl, h, .inl rfl⟩
  · simp only [ck, if_false]
    refine ⟨Z4, 0, false, H, rfl, ?_, h, .inl rfl⟩
    have hmay : (eqv H a b).1 = false := by
      unfold eqv
      simp only [rr, if_false, ck, ne_eq, not_false_eq_true, if_true]
    unfold hindcastref13_W_Bin_j2 hindcastref13_W_Bin_j1
    by_cases k1 : a.Kind = 1
    · have : ¬ b.Kind = 1 := fun e => ck (k1.trans e.symm)
      simp only [k1, if_true, this, if_false, show ¬ (1 : Int) = 4 by decide, show ¬ (1 : Int) = 3 by decide]; rfl
    by_cases k4 : a.Kind = 4
    · have : ¬ b.Kind = 4 := fun e => ck (k4.trans e.symm)
      simp only [k4, if_true, this, if_false, show ¬ (4 : Int) = 1 by decide, show ¬ (4 : Int) = 3 by decide]; rfl
    simp only [k1, k4, if_false, hmay, Bool.false_eq_true]
    split <;> rfl
end Go.Proofs.Ytmffhifkdbfbfaa
