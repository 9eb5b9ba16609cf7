/- Parts of the proof. -/
import Derived.Test.YtblikpgdepjhdaaHaHpLd2
namespace Go.Proofs.Ytblikpgdepjhdaa
open Go.RowKit
set_option linter.unusedVariables false
set_option maxHeartbeats 4000000
set_option maxRecDepth 100000
theorem append_none (w : World) (ty : TypeId) (a b : Option Addr) (c : Nat) : (Builtin.append_ #[25, 25] ty #[.slice a 0 0, .slice b 0 c]).run Try.prog w = .ok (.slice a 0 0) w := by
  obtain ⟨i0, hi, hz0, hz1, hz2⟩ := valueinfo
  have hu : Try.prog.underlying 25 = some (.slice 46) := by kernel_rfl
  cases a <;> cases b <;> simp [Builtin.append_, Builtin.lenOf, Builtin.firstCells, run_underlying hu, sizeOf, typeInfo, hi, loadCells, loadCellsFrom, storeCells]
theorem wpList_append_fresh {w : World} {ops : Array Oper} {rest : List Oper} {o : Oper} {a : Act} {Q : Exit → Act → World → Prop} (hgd : o.guard = none) (s x : Operand)
    (ho : o.op = .call { callee := .builtin .append, args := #[s, x], argTypes := #[25, 25] }) (nb : Nat) (hs : a.eval s = .slice (some ⟨nb, 0, none⟩) 0 0) (hnb : nb = w.heap.size) {v : Value} (l : List GApiValue) (hx : a.eval x = v)
    (hh : (ValsR w v l ∧ l.length ≤ 4000000000000) ∧ ∀ a' c' w' g, valsAt w' (.slice a' l.length c') l g → (∀ k, g = some k → w.heap.size ≤ k) → Below w.heap.size w w' → wpList Try.prog ops Q rest (a.put o.dst (.slice a' l.length c')) w') : wpList Try.prog ops Q (o :: rest) a (w.alloc (.cells #[] 46)) := by
  subst hnb
  obtain ⟨⟨hv, hl⟩, h⟩ := hh
  by_cases hn : l = []
  · subst hn
    obtain ⟨b, c, rfl, _⟩ := hv
    refine wpList_plain hgd fun K hK => ?_
    unfold Oper.wp execOp
    simp only [ho, resolve, invoke, builtin, Sem.run_bind, Sem.run_pure, Result.andThen_ok, List.map_toArray, List.map_cons, List.map_nil, hs, hx, append_none, List.length_nil]
    exact hK _ _ (h _ _ _ none ⟨rfl, _, _, by simp [maxLen], rfl⟩ (fun k hk => by cases hk) ((Below.refl _ w).alloc (Nat.le_refl _) _))
  · obtain ⟨i0, hi, hz0, hz1, hz2⟩ := valueinfo
    obtain ⟨g, off, c, rfl, hg, hc⟩ := valsR_cells hv hn
    have X0 : (w.alloc (.cells #[] 46)).ownsRow w.heap.size 46 4 (.slice (some ⟨w.heap.size, 0, none⟩) 0 0) 0 [] := ⟨rfl, .inr ⟨w.heap.size, 0, #[], rfl, Nat.le_refl _, row_alloc_new w _ _ rfl, Nat.le_refl _, by simp [maxLen], rfl, rfl⟩⟩
    have C0 : ∀ j u, (vrow l)[j]? = some u → (w.alloc (.cells #[] 46)).cell? ((⟨g, off, none⟩ : Addr).add j) = some u := fun j u hj => by
      have hadd : (⟨g, off, none⟩ : Addr).add j = ⟨g, off + j, none⟩ := by unfold Addr.add; split <;> simp_all
      rw [hadd]
      exact ((Below.refl _ w).alloc (Nat.le_refl _) (.cells #[] 46)).cell (p := ⟨g, _, none⟩) hg |>.trans (hc j u hj)
    refine wpList_append_own2 hgd s x 25 ho w.heap.size 46 i0 (.agg #[.int .u8 0, .int .i64 0, .int .i64 0, .int .i64 0]) 4 32 (by kernel_rfl) hi hz0 hz1 hz2 rfl (by decide) _ 0 [] hs X0 ⟨g, off, none⟩ l.length c (vrow l) hx (vrow_len l) C0 (vrow_one l) (by simp only [maxLen]; omega) (by omega) (by simp) ?_
    intro a' c' w1 ho1 hgr hp
    rw [Nat.zero_add] at ho1 ⊢
    rw [List.nil_append] at ho1
    have hgr : (w.alloc (.cells #[] 46)).grownBy w1 (some w.heap.size) := hgr
    have h0 : 0 < l.length := by cases l with
      | nil => exact absurd rfl hn
      | cons => simp
    have hgg : ∃ q, Value.ownBlock (.slice a' l.length c') = some q ∧ w.heap.size ≤ q := by
      rcases ho1.2 with ⟨e1, e2⟩ | ⟨q, cap, cur, e, hq, _⟩
      · exact absurd (show l.length = 0 by first | exact e1 | exact e2) (by omega)
      · cases e; exact ⟨q, rfl, hq⟩
    obtain ⟨q, hq1, hq2⟩ := hgg
    refine h a' c' w1 (some q) ⟨⟨ho1.1, ho1.2.imp id fun ⟨g', cap, cur, e, _, r⟩ => ⟨g', cap, cur, e, Nat.zero_le _, r⟩⟩, hq1⟩ (fun k hk => by cases hk; exact hq2) ⟨hgr.os, hgr.tape, hgr.output, Nat.le_trans (by simp) hgr.size, fun k hk => ?_⟩
    rw [hgr.block k (by simp; omega) (fun e => by cases e; omega)]
    exact row_alloc_old w _ k hk
end Go.Proofs.Ytblikpgdepjhdaa
