/- Parts of the proof. -/
import Derived.Test.YtblikpgdepjhdaaHaHpLoad
namespace Go.Proofs.Ytblikpgdepjhdaa
open Go.RowKit
set_option maxRecDepth 100000
set_option linter.unusedVariables false
set_option maxHeartbeats 4000000
theorem may_spec (o : GApiObj) : heap_may o = some (mayB o) := by
  have hj : heap_may_j0 o = some (decide (o.Text = []) && decide (0 ≤ o.Of)) := by
    unfold heap_may_j0
    by_cases c : o.Text = []
    · rw [if_pos c]; simp [c]
    · rw [if_neg c]; simp [c]
  unfold heap_may mayB
  by_cases c3 : o.Kind = 3
  · rw [if_pos c3, if_pos c3]
    by_cases c : o.Text = []
    · rw [if_pos c]; simp [c]
    · rw [if_neg c]
      by_cases cv : (o.Vals.length : Int) = 0
      · have : o.Vals = [] := List.eq_nil_of_length_eq_zero (by omega)
        rw [if_pos cv]; simp [c, this]
      · have : ¬ o.Vals = [] := fun e => cv (by rw [e]; rfl)
        rw [if_neg cv]; simp [c, this]
  · rw [if_neg c3, if_neg c3, hj]
    by_cases c7 : o.Kind = 7
    · rw [if_pos c7, if_pos (.inl c7)]
    · rw [if_neg c7]
      by_cases c6 : o.Kind = 6
      · rw [if_pos c6, if_pos (.inr c6)]
      · have : ¬ (o.Kind = 7 ∨ o.Kind = 6) := fun h => h.elim c7 c6
        rw [if_neg c6, if_neg this]
noncomputable def mayFv : Fv67 := Fv67.mk (.v (.func (.func 29) #[] #[])) (fun o => heap_Load_1 o) (fun o br hb => fnc_fn (heap_Load_1_ok hb))
theorem mayFv_run (o : GApiObj) : mayFv.run o = some (!mayB o) := by
  show heap_Load_1 o = _
  unfold heap_Load_1
  rw [may_spec, obind_some]
theorem index_loop (l : List GApiObj) (hl : l.length ≤ 1000000000) : ∀ (m k : Nat), l.length - k ≤ m → k ≤ l.length → ∃ r, slices_IndexFunc_api_Obj_l0 l mayFv k = some r ∧ decide (r ≥ 0) = (l.drop k).any fun o => !mayB o := by
  intro m
  have stop : ∀ k : Nat, ¬ k < l.length → ∃ r, slices_IndexFunc_api_Obj_l0 l mayFv k = some r ∧ decide (r ≥ 0) = (l.drop k).any fun o => !mayB o := fun k hk =>
    ⟨-1, by rw [slices_IndexFunc_api_Obj_l0_eq, if_neg (show ¬ (k : Int) < (l.length : Int) by omega), slices_IndexFunc_api_Obj_j1_eq], by rw [List.drop_of_length_le (by omega)]; rfl⟩
  induction m with
  | zero => intro k h1 h2; exact stop k (by omega)
  | succ m ih =>
    intro k h1 h2
    by_cases c : k < l.length
    · have hw : w64 ((k : Int) + 1) = ((k + 1 : Nat) : Int) := by rw [wrap64 (by omega) (by omega)]; omega
      obtain ⟨r, r1, r2⟩ := ih (k + 1) (by omega) (by omega)
      rw [slices_IndexFunc_api_Obj_l0_eq, if_pos (show (k : Int) < (l.length : Int) by omega), getI_nat' c, obind_some, mayFv_run, obind_some, hw, List.drop_eq_getElem_cons c, List.any_cons]
      cases hb : !mayB l[k] with
      | true => exact ⟨k, by rw [if_pos rfl], by simp⟩
      | false => exact ⟨r, by rw [if_neg (by simp)]; exact r1, by rw [r2, Bool.false_or]⟩
    · exact stop k c
theorem contains_spec (l : List GApiObj) (hl : l.length ≤ 1000000000) : slices_ContainsFunc_api_Obj l mayFv = some (l.any fun o => !mayB o) := by
  unfold slices_ContainsFunc_api_Obj slices_IndexFunc_api_Obj
  obtain ⟨r, r1, r2⟩ := index_loop l hl l.length 0 (by omega) (by omega)
  rw [show slices_IndexFunc_api_Obj_l0 l mayFv 0 = some r from r1, obind_some, r2, List.drop_zero]
theorem contains_raw (l : List GApiObj) (hl : l.length ≤ 1000000000) (v : Value) (w : World) (X : Nat → Prop) (hX : ∀ b, X b → b < w.heap.size) (hv : RepT w X (.sl 4 (l.map c_GApiObj)) v) :
    Calls Try.prog 28 #[v, .func (.func 29) #[] #[]] w fun e w' => e = .returned (.bool (l.any fun o => !mayB o)) ∧ Below w.heap.size w w' := by
  refine ((slices_ContainsFunc_api_Obj_ok (contains_spec l hl)).2 w X _ hX rfl ?_).mono ?_
  · intro i hi
    match i, hi with
    | 0, _ => exact .t _ _ hv
    | 1, _ => exact .t _ _ (.v _ rfl)
  · rintro e w' ⟨u, rfl, hb, hr⟩
    exact ⟨by rw [rep_val hr], hb⟩
def loadR (c : Int) (l : List GApiObj) : Option GHeapHeap × Int :=
  if c < 0 ∨ 65536 < c then (none, 1) else if (l.any fun o => !mayB o) = true then (none, 1) else match (GHeapHeap.new c).loads l with | none => (none, 21) | some H => (some H, 0)
def loadOk (l : List GApiObj) : Prop := l.length ≤ 1000000000 ∧ ∀ o ∈ l, o.Vals.length ≤ 4000000000000 ∧ o.Text.length < 4611686018427387904
theorem objSize_pos {o : GApiObj} (h : o.Vals.length ≤ 4000000000000 ∧ o.Text.length < 4611686018427387904) : 1 ≤ objSize o.Kind o.Text o.Vals.length := by
  by_cases hk : o.Kind = 3
  · rw [hk]; exact objSize3 _ _ h.2
  · rw [objSizeN _ _ _ hk h.1]; omega
theorem ObjsV.below {w w' : World} {v : Value} {l : List GApiObj} (h : ObjsV w v l) (hb : Below w.heap.size w w') : ObjsV w' v l := by
  obtain ⟨a, c, hv, hx⟩ := h
  refine ⟨a, c, hv, fun i hi => ?_⟩
  obtain ⟨g, off, vv, h1, h2, h3, h4, h5, h6, h7⟩ := hx i hi
  have e : ∀ j, w'.cell? ⟨g, j, none⟩ = w.cell? ⟨g, j, none⟩ := fun j => hb.cell (p := ⟨g, j, none⟩) h2
  exact ⟨g, off, vv, h1, Nat.lt_of_lt_of_le h2 hb.size, (e _).trans h3, (e _).trans h4, (e _).trans h5, (e _).trans h6, h7.below hb⟩
set_option maxHeartbeats 8000000 in
set_option maxRecDepth 100000 in
theorem heap_LoadBad (c : Int) (v : Value) (w : World) (hc : c < 0 ∨ 65536 < c) : Calls Try.prog 11 #[.int .i64 c, v] w fun e w' => e = .returned (.tuple #[.pointer none, .int .i64 1]) ∧ Below w.heap.size w w' := by
  have HC := Lib.hid hc
  clear hc
  go_enter Try.func11, Try.ntmps11
  go_wp2_with (go_at_call 16; go_must (refine (heap_NewBad c _ HC.out).mono ?_; rintro e w1 ⟨rfl, hb⟩))
  go_ret2
  exact ⟨rfl, (by repeat' (first | exact Below.refl _ _ | assumption | (refine thenB ?_ (by assumption)) | (refine belowN ?_ _) | (refine Below.alloc ?_ (by first | simp; done | (simp; omega) | omega) _) | (refine below_setRow ?_ (by first | simp; done | (simp; omega) | omega) _) | (refine Below.setCell ?_ (by first | simp; done | (simp; omega) | omega) _)))⟩
set_option maxHeartbeats 8000000 in
set_option maxRecDepth 100000 in
theorem heap_LoadMay (c : Int) (l : List GApiObj) (v : Value) (w : World) (h0 : 0 ≤ c) (h1 : c ≤ 65536) (hl : l.length ≤ 1000000000) (X : Nat → Prop) (hX : ∀ b, X b → b < w.heap.size) (hv : RepT w X (.sl 4 (l.map c_GApiObj)) v) (hm : (l.any fun o => !mayB o) = true) :
    Calls Try.prog 11 #[.int .i64 c, v] w fun e w' => e = .returned (.tuple #[.pointer none, .int .i64 1]) ∧ Below w.heap.size w w' := by
  have HX := Lib.hid hX
  have HV := Lib.hid hv
  have HM := Lib.hid hm
  clear hX hv hm
  go_enter Try.func11, Try.ntmps11
  go_wp2_with (first
    | (go_at_call 16; go_must (refine (heap_NewOk c _ h0 h1).mono ?_; rintro e w1 ⟨rfl, rfl⟩))
    | (go_at_call 28; go_must (refine (contains_raw l hl _ _ X (fun b hb => by have := HX.out b hb; simp; omega) (HV.out.ext ⟨by simp, fun k hk _ => row_alloc_old _ _ _ hk⟩ (fun _ _ h => h))).mono ?_; rw [HM.out]; rintro e w2 ⟨rfl, hb2⟩)))
  go_ret2
  exact ⟨rfl, (by repeat' (first | exact Below.refl _ _ | assumption | (refine thenB ?_ (by assumption)) | (refine belowN ?_ _) | (refine Below.alloc ?_ (by first | simp; done | (simp; omega) | omega) _) | (refine below_setRow ?_ (by first | simp; done | (simp; omega) | omega) _) | (refine Below.setCell ?_ (by first | simp; done | (simp; omega) | omega) _)))⟩
end Go.Proofs.Ytblikpgdepjhdaa
