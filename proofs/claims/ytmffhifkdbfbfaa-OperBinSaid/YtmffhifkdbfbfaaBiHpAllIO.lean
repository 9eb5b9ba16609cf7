/- Parts of the proof. -/
import Derived.Test.YtmffhifkdbfbfaaBiHpNew
namespace Go.Proofs.Ytmffhifkdbfbfaa
open Go.RowKit
set_option maxRecDepth 100000
set_option linter.unusedVariables false
set_option maxHeartbeats 4000000
theorem repT_vals {w : World} {M : Nat → Prop} {v : Value} {l : List GApiValue} {g : Option Nat} (h : valsAt w v l g) (hM : ∀ q, g = some q → ¬ M q) : RepT w M (.sl 4 (l.map c_GApiValue)) v := by
  cases g with
  | none =>
    obtain ⟨rfl, a, c, hc, rfl⟩ := h
    exact .nil 4 a c hc
  | some g =>
    obtain ⟨h1, h2⟩ := h
    by_cases hl : l = []
    · subst hl
      rcases h1.2 with ⟨e1, e2⟩ | ⟨q, cap, cur, e, h3, h4, h5, h6, h7, h8⟩
      · first | (rw [e1] at h2; simp [Value.ownBlock] at h2) | (rw [e2] at h2; simp [Value.ownBlock] at h2)
      · subst e; exact .nil 4 _ _ h6
    · have h0 : 0 < l.length := by cases l with
        | nil => exact absurd rfl hl
        | cons => simp
      rcases h1.2 with ⟨e1, e2⟩ | ⟨q, cap, cur, e, h3, h4, h5, h6, h7, h8⟩
      · exact absurd (show l.length = 0 by first | exact e1 | exact e2) (by omega)
      · subst e
        simp [Value.ownBlock] at h2
        subst h2
        have hcell : ∀ i (hi : i < l.length) j, j < 4 → w.cell? ⟨q, 0 + (i * 4 + j), none⟩ = (vcells l[i])[j]? := fun i hi j hj => by
          have e := flat4 vcells 4 (fun x => rfl) l i j hi hj
          have hlt : j < (vcells l[i]).length := hj
          have := h1.cells (g := q) rfl (i * 4 + j) ((vcells l[i])[j]) (by unfold vrow; rw [e]; exact List.getElem?_eq_getElem hlt)
          have hadd : (⟨q, 0, none⟩ : Addr).add (i * 4 + j) = ⟨q, 0 + (i * 4 + j), none⟩ := by unfold Addr.add; split <;> simp_all
          rw [hadd] at this
          rw [this]; exact (List.getElem?_eq_getElem hlt).symm
        have hlen : (l.map c_GApiValue).length = l.length := List.length_map _
        have R := RepT.sl (w := w) (M := M) 4 (l.map c_GApiValue) q 0 cap (fun i j => ((l[i]?.map vcells).getD [])[j]?.getD undef) (lt_of_block h4) (hM q rfl) (by rw [hlen]; exact h5) h6 (fun i hi => by simp [c_GApiValue])
          (fun i hi j hj => by
            have hi' : i < l.length := by simpa using hi
            rw [hcell i hi' j hj, List.getElem?_eq_getElem hi']
            have hlt : j < (vcells l[i]).length := hj
            simp only [Option.map_some, Option.getD_some]
            rw [List.getElem?_eq_getElem hlt]; rfl)
          (fun i hi j hj => by
            have hi' : i < l.length := by simpa using hi
            rw [List.getElem?_eq_getElem hi']
            simp only [Option.map_some, Option.getD_some, List.getElem_map, c_GApiValue] at hj ⊢
            match j, hj with
            | 0, _ => exact .v _ rfl
            | 1, _ => exact .v _ rfl
            | 2, _ => exact .v _ rfl
            | 3, _ => exact .v _ rfl)
        rw [hlen] at R
        exact R
theorem ocells_get : ∀ (l : List GApiObj) (vs : List Value), l.length = vs.length → ∀ i (hi : i < l.length) (hi' : i < vs.length) j, j < 4 → (ocells l vs)[i * 4 + j]? = (ocell l[i] vs[i])[j]?
  | [], _, _, i, hi, _, _, _ => by simp at hi
  | a :: l, [], h, _, _, hi', _, _ => by simp at hi'
  | a :: l, b :: vs, h, 0, hi, hi', j, hj => by
    rw [ocells, Nat.zero_mul, Nat.zero_add, List.getElem?_append_left (by exact hj)]; rfl
  | a :: l, b :: vs, h, i + 1, hi, hi', j, hj => by
    have e : (i + 1) * 4 + j - (ocell a b).length = i * 4 + j := by simp [ocell]; omega
    rw [ocells, List.getElem?_append_right (by simp [ocell]; omega), e]
    exact ocells_get l vs (by simpa using h) i (by simpa using hi) (by simpa using hi') j hj
def xheap_Heap_All (H : GHeapHeap) : Option (List GApiObj) := if ∀ o ∈ H.l, o.Vals.length ≤ 65536 then some H.l else none
theorem xheap_Heap_All_ok {H : GHeapHeap} {r : List GApiObj} (h : xheap_Heap_All H = some r) : RI_heap_Heap_All H r := by
  unfold xheap_Heap_All at h
  split at h
  case isFalse => cases h
  rename_i hvb
  cases h
  refine ⟨by kernel_rfl, fun C L vals hP hpin hs hsz hrep => ?_⟩
  have hmem : (mst [(900, Blk.obj (.any (rep_GHeapHeap H)))]).mem 900 = some (.obj (.any (rep_GHeapHeap H))) := rfl
  obtain ⟨b, ob, hb, hw, pls, ps, lv, hat⟩ := (hs.mem 900 _ hmem).2
  have hM : ∀ k, Mut C (mst [(900, Blk.obj (.any (rep_GHeapHeap H)))]) L k → k < C.w0.heap.size := fun k hk => by
    rcases hk with hx | ⟨i, h1, h2⟩
    · exact hs.old k hx
    · exact (hs.out i k h1 h2).2.1
  have hMb : Mut C (mst [(900, Blk.obj (.any (rep_GHeapHeap H)))]) L b := .inr ⟨900, rfl, .inl hb⟩
  have hMo : ∀ k, (L 900).own k → Mut C (mst [(900, Blk.obj (.any (rep_GHeapHeap H)))]) L k := fun k hk => .inr ⟨900, rfl, .inr hk⟩
  have hv0 : vals.getD 0 undef = .pointer (some ⟨b, 0, none⟩) := by
    have h0 := hrep 0 (by simp)
    simp only [List.getElem_cons_zero] at h0
    generalize vals.getD 0 undef = v0 at h0
    cases h0 with
    | ob _ _ h1 hu hq => rw [hq _ hmem]; simp [Loc.ob, Od.isMap, hb]
  rw [vals1 (by simpa using hsz) hv0]
  refine (heap_All hat hvb).mono ?_
  rintro e w' ⟨v, vs, rfl, hA⟩
  have hB := hA.below
  obtain ⟨lr, hlr, hrow⟩ : ∃ lr : Loc, (∀ k, lr.has k → C.w0.heap.size ≤ k ∧ k < w'.heap.size ∧ v.ownBlock = some k) ∧ v = lr.slice H.l.length ∧ ((H.l = [] ∧ lr = nol) ∨ ∃ q cur, lr.blk = some q ∧ w'.heap[q]? = some (.cells cur 100 (0, 0)) ∧ H.l.length ≤ lr.cap ∧ lr.cap ≤ maxLen ∧ cur.size = lr.cap * 4 ∧ cur.toList.take (H.l.length * 4) = ocells H.l vs) := by
    have ho := hA.own
    rw [List.take_of_length_le (Nat.le_refl _)] at ho
    rcases ho.2 with hx | ⟨q, cap, cur, e, h3, h4, h5, h6, h7, h8⟩
    · have e1 : H.l.length = 0 := by first | exact hx.1 | exact hx.2
      have e2 : v = .slice none 0 0 := by first | exact hx.1 | exact hx.2
      exact ⟨nol, fun k hk => (nol_has hk).elim, by rw [e2, e1]; rfl, .inl ⟨List.eq_nil_of_length_eq_zero e1, rfl⟩⟩
    · refine ⟨Loc.at_ q cap, fun k hk => ?_, by rw [e]; rfl, .inr ⟨q, cur, rfl, h4, h5, h6, h7, h8⟩⟩
      have := at_has hk
      subst this
      exact ⟨h3, lt_of_block h4, by rw [e]; rfl⟩
  have hlM : ∀ k, (L 900).has k → k < C.w0.heap.size := fun k hk => (hs.out 900 k rfl hk).2.1
  let m' : List (Nat × Blk) := [(900, .obj (.any (rep_GHeapHeap H))), (800000, .row 100 4 (H.l.map c_GApiObj))]
  have hm9 : (mst m').mem 900 = some (.obj (.any (rep_GHeapHeap H))) := rfl
  have hm8 : (mst m').mem 800000 = some (.row 100 4 (H.l.map c_GApiObj)) := rfl
  have keyS : ∀ i, ((mst m').mem i).isSome = true → i = 900 ∨ i = 800000 := fun i hi => by
    by_cases e : i = 900
    · exact .inl e
    · by_cases e' : i = 800000
      · exact .inr e'
      · simp [m', mkSt, look, e, e'] at hi
  let L' := upd L 800000 lr
  have hL9 : L' 900 = L 900 := upd_other _ _ _ _ (by decide)
  have hL8 : L' 800000 = lr := upd_same _ _ _
  have hsim : SimL C (mst m') L' noAct w' := by
    refine hs.next0 rfl rfl rfl hB.os hB.tape hB.output hB.size (fun k hk _ => hB.block k hk) (fun i hi => ?_) (fun i hi b' hb' => ?_) (fun i k hi hl => ?_) (fun i j k hi hj h1 h2 => ?_) (fun i hi hf => ?_) (fun i b' hb' => ?_) (fun t => .inl ⟨rfl, rfl⟩)
    · have := mst_oneU hi
      subst this; rfl
    · have := mst_oneU hi
      subst this
      rw [hm9] at hb'
      cases hb'
      exact ⟨_, hmem, Blk.alike_refl _, Loc.like.of hL9⟩
    · rcases keyS i hi with rfl | rfl
      · rw [hL9] at hl; exact .inr ⟨900, rfl, hl⟩
      · rw [hL8] at hl; exact .inl ⟨(hlr k hl).1, (hlr k hl).2.1⟩
    · rcases keyS i hi with rfl | rfl <;> rcases keyS j hj with rfl | rfl
      · rfl
      · rw [hL9] at h1; rw [hL8] at h2
        have := hlM k h1; have := (hlr k h2).1; omega
      · rw [hL8] at h1; rw [hL9] at h2
        have := hlM k h2; have := (hlr k h1).1; omega
      · rfl
    · rcases keyS i hi with rfl | rfl
      · cases hf
      · exact .inr (by decide)
    · rcases keyS i (by rw [hb']; rfl) with rfl | rfl
      · rw [hm9] at hb'
        cases hb'
        exact ⟨rfl, .inl ⟨hmem, hL9, fun k hk => hB.block k (hlM k hk)⟩⟩
      · rw [hm8] at hb'
        cases hb'
        refine ⟨rfl, .inr ⟨by decide, fun i hi => by simp [c_GApiObj], ?_⟩⟩
        rw [hL8]
        rcases hrow.2 with ⟨h1, h2⟩ | ⟨q, cur, h1, h2, h3, h4, h5, h6⟩
        · exact .inl ⟨by rw [h1]; rfl, h2⟩
        · refine .inr ⟨q, cur, h1, h2, by simpa using h3, h4, h5, fun i hi j hj => ?_⟩
          have hi' : i < H.l.length := by simpa using hi
          have hiv : i < vs.length := by rw [hA.len]; exact hi'
          have hj4 : j < 4 := by simpa [c_GApiObj] using hj
          have hg := ocells_get H.l vs hA.len.symm i hi' hiv j hj4
          rw [← h6, List.getElem?_take_of_lt (by omega)] at hg
          have hlt : j < (ocell H.l[i] vs[i]).length := hj4
          refine ⟨(ocell H.l[i] vs[i])[j], by rw [List.getElem?_eq_getElem hlt] at hg; simpa using hg, ?_⟩
          simp only [List.getElem_map]
          match j, hj4 with
          | 0, _ => exact .v _ rfl
          | 1, _ => exact .v _ rfl
          | 2, _ => exact .v _ rfl
          | 3, _ =>
            obtain ⟨g, g1, g2⟩ := hA.vals i hiv hi'
            refine repT_vals g1 fun q' hq' hmu => ?_
            obtain ⟨r1, r2⟩ := g2 q' hq'
            rcases hmu with hx | ⟨i', hi'', hl⟩
            · have := hs.old q' hx; omega
            · rcases keyS i' hi'' with rfl | rfl
              · rw [hL9] at hl; have := hlM q' hl; omega
              · rw [hL8] at hl; exact r2 (hlr q' hl).2.2
  refine ⟨v, L', rfl, hsim, .ref 800000 v ?_ rfl fun e k xs hx => ?_⟩
  · rw [hrow.1]; rfl
  · rw [hm8] at hx
    cases hx
    rw [hL8, List.length_map]
    exact hrow.1
end Go.Proofs.Ytmffhifkdbfbfaa
