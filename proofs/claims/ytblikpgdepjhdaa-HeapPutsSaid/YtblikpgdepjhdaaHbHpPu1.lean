/- Parts of the proof. -/
import Derived.Test.YtblikpgdepjhdaaHbHpLd4
namespace Go.Proofs.Ytblikpgdepjhdaa
open Go.RowKit
set_option linter.unusedVariables false
set_option maxHeartbeats 4000000
set_option maxRecDepth 100000
def OpsV (w : World) (M : Nat → Prop) (v : Value) (l : List GL11Op) : Prop :=
  ∃ a c, v = .slice a l.length c ∧ ∀ i (hi : i < l.length), ∃ g off vv, a = some ⟨g, off, none⟩ ∧ g < w.heap.size ∧ w.cell? ⟨g, off + i * 13, none⟩ = some (.int .i64 l[i].Kind) ∧ w.cell? ⟨g, off + i * 13 + 1, none⟩ = some (.int .i64 l[i].Of) ∧ w.cell? ⟨g, off + i * 13 + 2, none⟩ = some (.int .i64 l[i].N) ∧ w.cell? ⟨g, off + i * 13 + 3, none⟩ = some (.string (mkS l[i].Text)) ∧
    w.cell? ⟨g, off + i * 13 + 4, none⟩ = some (.int .u8 l[i].V.Kind) ∧ w.cell? ⟨g, off + i * 13 + 5, none⟩ = some (.int .i64 l[i].V.N) ∧ w.cell? ⟨g, off + i * 13 + 6, none⟩ = some (.int .i64 l[i].V.Re) ∧ w.cell? ⟨g, off + i * 13 + 7, none⟩ = some (.int .i64 l[i].V.Im) ∧
    w.cell? ⟨g, off + i * 13 + 8, none⟩ = some (.int .u8 l[i].X.Kind) ∧ w.cell? ⟨g, off + i * 13 + 9, none⟩ = some (.int .i64 l[i].X.N) ∧ w.cell? ⟨g, off + i * 13 + 10, none⟩ = some (.int .i64 l[i].X.Re) ∧ w.cell? ⟨g, off + i * 13 + 11, none⟩ = some (.int .i64 l[i].X.Im) ∧
    w.cell? ⟨g, off + i * 13 + 12, none⟩ = some vv ∧ RepT w M (.sl 4 (l[i].Vals.map c_GApiValue)) vv
theorem opsV_t {w : World} {M : Nat → Prop} {v : Value} {l : List GL11Op} (h : RepT w M (.sl 13 (l.map c_GL11Op)) v) : OpsV w M v l := by
  generalize hx : l.map c_GL11Op = xs at h
  cases h with
  | nil k a cap hcm =>
    have : l = [] := List.map_eq_nil_iff.1 hx
    subst this
    exact ⟨a, cap, rfl, fun i hi => by simp at hi⟩
  | sl k xs b off cap c hb hM hcap hcm hk hc hr =>
    have hl : xs.length = l.length := by rw [← hx]; simp
    rw [hl]
    refine ⟨_, cap, rfl, fun i hi => ?_⟩
    have hi' : i < xs.length := by omega
    have hxi : xs[i] = c_GL11Op l[i] := by subst hx; simp
    have key : ∀ j (hj : j < 13) t, (c_GL11Op l[i])[j]? = some t → ∃ u, w.cell? ⟨b, off + i * 13 + j, none⟩ = some u ∧ RepT w M t u := fun j hj t ht => by
      have hl13 : j < xs[i].length := by rw [hxi]; exact hj
      have r := hr i hi' j hl13
      have hc' := hc i hi' j hj
      rw [← Nat.add_assoc] at hc'
      have e : xs[i][j] = t := by
        have : xs[i][j]? = some t := by rw [hxi]; exact ht
        rw [List.getElem?_eq_getElem hl13] at this
        exact Option.some.inj this
      rw [e] at r
      exact ⟨_, hc', r⟩
    have one : ∀ j (hj : j < 13) x, (c_GL11Op l[i])[j]? = some (.v x) → w.cell? ⟨b, off + i * 13 + j, none⟩ = some x := fun j hj x hx => by
      obtain ⟨u, h1, h2⟩ := key j hj _ hx
      rw [h1, repT_v h2]
    obtain ⟨u, h1, h2⟩ := key 12 (by omega) _ rfl
    exact ⟨b, off, u, rfl, hb, one 0 (by omega) _ rfl, one 1 (by omega) _ rfl, one 2 (by omega) _ rfl, one 3 (by omega) _ rfl, one 4 (by omega) _ rfl, one 5 (by omega) _ rfl, one 6 (by omega) _ rfl, one 7 (by omega) _ rfl, one 8 (by omega) _ rfl, one 9 (by omega) _ rfl, one 10 (by omega) _ rfl, one 11 (by omega) _ rfl, h1, h2⟩
end Go.Proofs.Ytblikpgdepjhdaa
