/- Parts of the proof. -/
import Derived.Test.YtblikpgdepjhdaaHaHpIO
namespace Go.Proofs.Ytblikpgdepjhdaa
open Go.RowKit
set_option linter.unusedVariables false
def ValsR (w : World) (v : Value) (l : List GApiValue) : Prop :=
  ∃ a c, v = .slice a l.length c ∧ ∀ i (hi : i < l.length), ∃ g off, a = some ⟨g, off, none⟩ ∧ g < w.heap.size ∧ ∀ j (hj : j < 4), w.cell? ⟨g, off + (i * 4 + j), none⟩ = (vcells l[i])[j]?
theorem flat4 {α : Type} (f : α → List Value) (k : Nat) (hk : ∀ x, (f x).length = k) : ∀ (l : List α) (i j : Nat) (hi : i < l.length), j < k → (l.flatMap f)[i * k + j]? = (f l[i])[j]?
  | x :: l, 0, j, _, hj => by
    rw [List.flatMap_cons, Nat.zero_mul, Nat.zero_add, List.getElem?_append_left (by rw [hk]; exact hj)]; rfl
  | x :: l, i + 1, j, hi, hj => by
    rw [List.flatMap_cons, List.getElem?_append_right (by rw [hk, Nat.add_mul]; omega), hk]
    rw [show (i + 1) * k + j - k = i * k + j by rw [Nat.add_mul]; omega]
    exact flat4 f k hk l i j (by simpa using hi) hj
theorem valsR_own {w : World} {v : Value} {l : List GApiValue} {g : Option Nat} (h : valsAt w v l g) : ValsR w v l := by
  cases g with
  | none =>
    obtain ⟨rfl, a, c, _, rfl⟩ := h
    exact ⟨a, c, rfl, fun i hi => by simp at hi⟩
  | some g =>
    obtain ⟨h1, h2⟩ := h
    obtain ⟨a, c, rfl⟩ := owns_slice h1
    refine ⟨a, c, rfl, fun i hi => ?_⟩
    have ha : a = some ⟨g, 0, none⟩ := by
      rcases h1.2 with ⟨e1, e2⟩ | ⟨g', cap, cur, e, _⟩
      · rw [show l.length = 0 by first | exact e1 | exact e2] at hi; omega
      · cases e
        simp [Value.ownBlock] at h2
        rw [h2]
    subst ha
    refine ⟨g, 0, rfl, owns_lt h1 rfl, fun j hj => ?_⟩
    have hx := flat4 vcells 4 (fun x => rfl) l i j hi hj
    have hlt : j < (vcells l[i]).length := hj
    have := h1.cells (g := g) rfl (i * 4 + j) ((vcells l[i])[j]) (by unfold vrow; rw [hx]; exact List.getElem?_eq_getElem hlt)
    have hadd : (⟨g, 0, none⟩ : Addr).add (i * 4 + j) = ⟨g, 0 + (i * 4 + j), none⟩ := by unfold Addr.add; split <;> simp_all
    rw [hadd] at this
    rw [this]; exact (List.getElem?_eq_getElem hlt).symm
theorem repT_v {w : World} {M : Nat → Prop} {x y : Value} (h : RepT w M (.v x) y) : y = x := by
  generalize hz : T.v x = z at h
  cases h <;> cases hz
  rfl
theorem valsR_t {w : World} {M : Nat → Prop} {v : Value} {l : List GApiValue} (h : RepT w M (.sl 4 (l.map c_GApiValue)) v) : ValsR w v l := by
  generalize hx : l.map c_GApiValue = xs at h
  cases h with
  | nil k a cap hcm =>
    have : l = [] := List.map_eq_nil_iff.1 hx
    subst this
    exact ⟨a, cap, rfl, fun i hi => by simp at hi⟩
  | sl k xs b off cap c hb hM hcap hcm hk hc hr =>
    have hl : xs.length = l.length := by rw [← hx]; simp
    rw [hl]
    refine ⟨_, cap, rfl, fun i hi => ⟨b, off, rfl, hb, fun j hj => ?_⟩⟩
    have hi' : i < xs.length := by omega
    rw [hc i hi' j hj]
    have hxi : xs[i] = c_GApiValue l[i] := by subst hx; simp
    have hjl : j < (xs[i]).length := by rw [hxi]; exact hj
    have := hr i hi' j hjl
    match j, hj with
    | 0, _ => rw [show xs[i][0] = tI .u8 l[i].Kind by simp [hxi, c_GApiValue]] at this; rw [repT_v this]; rfl
    | 1, _ => rw [show xs[i][1] = tI .i64 l[i].N by simp [hxi, c_GApiValue]] at this; rw [repT_v this]; rfl
    | 2, _ => rw [show xs[i][2] = tI .i64 l[i].Re by simp [hxi, c_GApiValue]] at this; rw [repT_v this]; rfl
    | 3, _ => rw [show xs[i][3] = tI .i64 l[i].Im by simp [hxi, c_GApiValue]] at this; rw [repT_v this]; rfl
theorem obj_cells {w : World} {M : Nat → Prop} {o : GApiObj} {p : Value} {q : OPl} (h : objAt w M o p q) : ∃ b off v s, p = .pointer (some ⟨b, off, none⟩) ∧ b < w.heap.size ∧ w.cell? ⟨b, off + 0, none⟩ = some (.int .u8 o.Kind) ∧ w.cell? ⟨b, off + 1, none⟩ = some (.int .i64 o.Of) ∧
    w.cell? ⟨b, off + 2, none⟩ = some (.string (mkS o.Text)) ∧ w.cell? ⟨b, off + 3, none⟩ = some v ∧ w.cell? ⟨b, off + 4, none⟩ = some (.bool s) ∧ ValsR w v o.Vals := by
  cases q with
  | own b g =>
    obtain ⟨rfl, v, h2, h3⟩ := h
    have hc := has_cell h2
    exact ⟨b, 0, v, false, rfl, has_lt h2, hc 0, hc 1, hc 2, hc 3, hc 4, valsR_own h3⟩
  | shared =>
    obtain ⟨h, _⟩ := h
    cases h with
    | fp cells b off c hb hM hc hr =>
      have e0 : c 0 = .int .u8 o.Kind := by have := hr 0 (by simp [c_GHeapObject]); simp only [c_GHeapObject] at this; exact repT_v this
      have e1 : c 1 = .int .i64 o.Of := by have := hr 1 (by simp [c_GHeapObject]); simp only [c_GHeapObject] at this; exact repT_v this
      have e2 : c 2 = .string (mkS o.Text) := by have := hr 2 (by simp [c_GHeapObject]); simp only [c_GHeapObject] at this; exact repT_v this
      have e4 : c 4 = .bool true := by have := hr 4 (by simp [c_GHeapObject]); simp only [c_GHeapObject] at this; exact repT_v this
      exact ⟨b, off, c 3, true, rfl, hb, e0 ▸ hc 0 (by simp [c_GHeapObject]), e1 ▸ hc 1 (by simp [c_GHeapObject]), e2 ▸ hc 2 (by simp [c_GHeapObject]), hc 3 (by simp [c_GHeapObject]), e4 ▸ hc 4 (by simp [c_GHeapObject]), valsR_t (hr 3 (by simp [c_GHeapObject]))⟩
end Go.Proofs.Ytblikpgdepjhdaa
