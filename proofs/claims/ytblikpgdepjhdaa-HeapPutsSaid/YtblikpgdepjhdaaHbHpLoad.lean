/- Parts of the proof. -/
import Derived.Test.YtblikpgdepjhdaaHbHpAllIO
import Derived.Test.YtblikpgdepjhdaaHbLfCon
namespace Go.Proofs.Ytblikpgdepjhdaa
open Go.RowKit
set_option maxRecDepth 100000
set_option linter.unusedVariables false
def ObjsV (w : World) (v : Value) (l : List GApiObj) : Prop :=
  ∃ a c, v = .slice a l.length c ∧ ∀ i (hi : i < l.length), ∃ g off vv, a = some ⟨g, off, none⟩ ∧ g < w.heap.size ∧ w.cell? ⟨g, off + i * 4, none⟩ = some (.int .u8 l[i].Kind) ∧ w.cell? ⟨g, off + i * 4 + 1, none⟩ = some (.int .i64 l[i].Of) ∧ w.cell? ⟨g, off + i * 4 + 2, none⟩ = some (.string (mkS l[i].Text)) ∧ w.cell? ⟨g, off + i * 4 + 3, none⟩ = some vv ∧ ValsR w vv l[i].Vals
theorem objsV_t {w : World} {M : Nat → Prop} {v : Value} {l : List GApiObj} (h : RepT w M (.sl 4 (l.map c_GApiObj)) v) : ObjsV w v l := by
  generalize hx : l.map c_GApiObj = xs at h
  cases h with
  | nil k a cap hcm =>
    have : l = [] := List.map_eq_nil_iff.1 hx
    subst this
    exact ⟨a, cap, rfl, fun i hi => by simp at hi⟩
  | sl k xs b off cap c hb hM hcap hcm hk hc hr =>
    have hl : xs.length = l.length := by rw [← hx]; simp
    rw [hl]
    refine ⟨_, cap, rfl, fun i hi => ?_⟩
    have hi' : i < xs.length := by omega
    have hxi : xs[i] = c_GApiObj l[i] := by subst hx; simp
    have hl4 : xs[i].length = 4 := by rw [hxi]; rfl
    have r0 := hr i hi' 0 (by omega)
    have r1 := hr i hi' 1 (by omega)
    have r2 := hr i hi' 2 (by omega)
    have r3 := hr i hi' 3 (by omega)
    rw [show xs[i][0] = tI .u8 l[i].Kind by simp [hxi, c_GApiObj]] at r0
    rw [show xs[i][1] = tI .i64 l[i].Of by simp [hxi, c_GApiObj]] at r1
    rw [show xs[i][2] = tS l[i].Text by simp [hxi, c_GApiObj]] at r2
    rw [show xs[i][3] = .sl 4 (l[i].Vals.map c_GApiValue) by simp [hxi, c_GApiObj]] at r3
    have e : ∀ j, off + i * 4 + j = off + (i * 4 + j) := fun j => Nat.add_assoc _ _ _
    refine ⟨b, off, c i 3, rfl, hb, ?_, ?_, ?_, ?_, valsR_t r3⟩
    · have := hc i hi' 0 (by omega); rw [Nat.add_zero] at this; rw [this, repT_v r0]
    · rw [e]; have := hc i hi' 1 (by omega); rw [this, repT_v r1]
    · rw [e]; have := hc i hi' 2 (by omega); rw [this, repT_v r2]
    · rw [e]; exact hc i hi' 3 (by omega)
end Go.Proofs.Ytblikpgdepjhdaa
