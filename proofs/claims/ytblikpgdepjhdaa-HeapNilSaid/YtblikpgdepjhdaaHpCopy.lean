/- A heap that is the same: the walk. -/
import Derived.Deep.RegionHeld3
import Derived.Test.YtblikpgdepjhdaaHpClone2
namespace Go.Proofs.Ytblikpgdepjhdaa
open Go.RowKit
set_option linter.unusedVariables false

theorem setCell_same {w : World} {p : Addr} {v : Value} (h : w.cell? p = some v) (k : Nat) : (w.setCell p v).heap[k]? = w.heap[k]? := by
  by_cases e : k = p.block
  · subst e
    unfold World.cell? at h
    unfold World.setCell
    simp only [Array.getElem?_modify]
    cases hb : w.heap[p.block]? with
    | none => simp [hb]
    | some ob =>
      rw [hb] at h
      cases ob with
      | cells c t fr =>
        simp only [Option.map_some, if_true]
        cases hs : p.spot with
        | some s => simp [hs]
        | none =>
          rw [hs] at h
          simp only [Option.isSome_none, Bool.false_eq_true, if_false]
          have hc : c[p.off]? = some v := by simpa using h
          congr 2
          apply Array.ext
          · simp
          · intro i h1 h2
            rw [Array.getElem_setIfInBounds]
            split
            · rename_i e
              subst e
              rw [Array.getElem?_eq_getElem h2] at hc
              exact (Option.some.inj hc).symm
            · rfl
      | _ => simp
  · exact Below.heap_setCell w p v k e
def objC (w : World) (M : Nat → Prop) (o : GApiObj) (p : Value) (f : Bool) : OPl → Prop
  | .shared => objAt w M o p .shared
  | .own b g => p = .pointer (some ⟨b, 0, none⟩) ∧ ∃ v, Has w b #[.int .u8 o.Kind, .int .i64 o.Of, .string (mkS o.Text), v, .bool f] 75 ∧ valsAt w v o.Vals g
theorem objC_of {w : World} {M : Nat → Prop} {o : GApiObj} {p : Value} {q : OPl} (h : objAt w M o p q) : objC w M o p false q := by cases q <;> exact h
theorem objC_eq {w w' : World} {M : Nat → Prop} {o : GApiObj} {p : Value} {f : Bool} {q : OPl} (h : objC w M o p f q) (he : Ext M w w') (hb : ∀ k ∈ q.bs, w'.heap[k]? = w.heap[k]?) : objC w' M o p f q := by
  cases q with
  | shared => exact objAt_eq (q := .shared) h he (fun _ _ h => h) hb
  | own b g =>
    obtain ⟨h1, v, h2, h3⟩ := h
    exact ⟨h1, v, (hb b (by simp [OPl.bs])).trans h2, valsAt_eq h3 fun k hk => hb k (by simp [OPl.bs, hk])⟩
/-- The flag's cell. -/
theorem objC_flag {w : World} {M : Nat → Prop} {o : GApiObj} {p : Value} {f : Bool} {q : OPl} (h : objC w M o p f q) : ∃ b off fl, p = .pointer (some ⟨b, off, none⟩) ∧ b < w.heap.size ∧ w.cell? ⟨b, off + 4, none⟩ = some (.bool fl) ∧ w.frozen? ⟨b, off + 4, none⟩ = false ∧ (q = .shared ∧ fl = true ∨ ∃ g, q = .own b g ∧ off = 0) := by
  cases q with
  | shared =>
    obtain ⟨b, off, v, rfl, h1, _, _, _, _, h2, _⟩ := shared_cells h
    exact ⟨b, off, true, rfl, h1, h2, h.2 b off rfl, .inl ⟨rfl, rfl⟩⟩
  | own b g =>
    obtain ⟨rfl, v, h2, h3⟩ := h
    exact ⟨b, 0, f, rfl, has_lt h2, has_cell h2 4, has_free h2 4, .inr ⟨g, rfl, rfl⟩⟩
theorem objC_set {w : World} {M : Nat → Prop} {o : GApiObj} {p : Value} {f : Bool} {b : Nat} {g : Option Nat} (h : objC w M o p f (.own b g)) (hbg : g ≠ some b) : objC (w.setCell ⟨b, 4, none⟩ (.bool true)) M o p true (.own b g) := by
  obtain ⟨h1, v, h2, h3⟩ := h
  refine ⟨h1, v, has_set_same h2 4 (.bool true), valsAt_eq h3 fun k hk => Below.heap_setCell _ _ _ _ (fun e => hbg (by rw [hk, e]))⟩
theorem objC_shared {w : World} {M M' : Nat → Prop} {o : GApiObj} {p : Value} {q : OPl} (h : objC w M o p true q) (hM : ∀ k, k < w.heap.size → M' k → M k) (hb : ∀ k ∈ q.bs, ¬ M' k) : objAt w M' o p .shared := by
  cases q with
  | shared => exact objAt_eq (q := .shared) h (Ext.refl _ _) hM (fun _ _ => rfl)
  | own b g =>
    obtain ⟨rfl, v, h2, h3⟩ := h
    refine ⟨.fp _ b 0 (fun j => (#[Value.int .u8 o.Kind, .int .i64 o.Of, .string (mkS o.Text), v, .bool true] : Array Value)[j]?.getD undef) (has_lt h2) (hb b (by simp [OPl.bs])) (fun j hj => ?_) (fun j hj => ?_), fun b' off' e => by cases e; exact has_free h2 _⟩
    · rw [has_cell h2]
      have hj5 : j < 5 := by simpa [c_GHeapObject] using hj
      match j, hj5 with
      | 0, _ => rfl
      | 1, _ => rfl
      | 2, _ => rfl
      | 3, _ => rfl
      | 4, _ => rfl
    · have hj5 : j < 5 := by simpa [c_GHeapObject] using hj
      match j, hj5 with
      | 0, _ => exact .v _ rfl
      | 1, _ => exact .v _ rfl
      | 2, _ => exact .v _ rfl
      | 3, _ => exact repT_vals h3 fun q hq => hb q (by simp [OPl.bs, hq])
      | 4, _ => exact .v _ rfl
structure MidC (H : GHeapHeap) (w wr : World) (M : Nat → Prop) (pls : List OPl) (ps : List Value) (k : Nat) : Prop where
  mod : Mod (fun x => x ∈ pls.flatMap OPl.bs) w wr
  objs : ∀ i (h1 : i < H.l.length) (h2 : i < ps.length) (h3 : i < pls.length), objC wr M H.l[i] ps[i] (decide (i < k)) pls[i]
theorem midC_step {H : GHeapHeap} {w wr : World} {M own : Nat → Prop} {b : Nat} {pls : List OPl} {ps : List Value} {lv : Value} (h : HeapAt H w M own b pls ps lv) (hMo : ∀ k, own k → M k) {k : Nat} (hm : MidC H w wr M pls ps k)
    (h1 : k < H.l.length) (h2 : k < ps.length) (h3 : k < pls.length) {pb off : Nat} {fl : Bool} (hp : ps[k] = .pointer (some ⟨pb, off, none⟩)) (hc : wr.cell? ⟨pb, off + 4, none⟩ = some (.bool fl)) (hq : pls[k] = .shared ∧ fl = true ∨ ∃ g, pls[k] = .own pb g ∧ off = 0) :
    MidC H w (wr.setCell ⟨pb, off + 4, none⟩ (.bool true)) M pls ps (k + 1) := by
  rcases hq with ⟨hq, rfl⟩ | ⟨g, hq, rfl⟩
  · have hs := setCell_same hc
    refine ⟨⟨hm.mod.os, hm.mod.tape, hm.mod.output, by rw [World.size_setCell]; exact hm.mod.size, fun x hx hn => (hs x).trans (hm.mod.block x hx hn)⟩, fun i a1 a2 a3 => ?_⟩
    have := objC_eq (hm.objs i a1 a2 a3) (w' := wr.setCell ⟨pb, off + 4, none⟩ (.bool true)) ⟨by rw [World.size_setCell]; exact Nat.le_refl _, fun x _ _ => hs x⟩ fun x _ => hs x
    by_cases e : i = k
    · subst e
      rw [hq] at this ⊢
      exact this
    · rw [show decide (i < k + 1) = decide (i < k) by simp; omega]
      exact this
  · have hpm : pb ∈ pls[k].bs := by rw [hq]; simp [OPl.bs]
    have hbo := h.bs_own h3 hpm
    have hpg : g ≠ some pb := by
      have hf := (List.nodup_append.1 (List.nodup_cons.1 h.nodup).2).2.1
      have : (pls[k].bs).Nodup := List.Sublist.nodup (by
        have e := List.getElem_mem h3
        exact List.sublist_flatten_of_mem (List.mem_map.2 ⟨_, e, rfl⟩) |>.trans (by rw [List.flatMap_def]; exact List.Sublist.refl _)) hf
      rw [hq] at this
      intro e
      rw [e] at this
      simp [OPl.bs] at this
    refine ⟨hm.mod.setCell _ _ (.inr (List.mem_flatMap.2 ⟨_, List.getElem_mem h3, hpm⟩)), fun i a1 a2 a3 => ?_⟩
    by_cases e : i = k
    · subst e
      have := hm.objs i a1 a2 a3
      rw [hq] at this ⊢
      have h9 := objC_set this hpg
      rw [show decide (i < i + 1) = true by simp]
      exact h9
    · rw [show decide (i < k + 1) = decide (i < k) by simp; omega]
      refine objC_eq (hm.objs i a1 a2 a3) ⟨by rw [World.size_setCell]; exact Nat.le_refl _, fun x _ hx => Below.heap_setCell _ _ _ _ fun e2 => hx (e2 ▸ hMo _ hbo.1)⟩ fun x hx => Below.heap_setCell _ _ _ _ fun e2 => ?_
      have e3 : x = pb := e2
      subst e3
      exact h.bs_apart a3 h3 e hx hpm
theorem rep_flat (n : Nat) : (List.replicate n OPl.shared).flatMap OPl.bs = [] := by
  induction n with
  | zero => rfl
  | succ n ih => rw [List.replicate_succ, List.flatMap_cons, ih]; rfl
/-- All objects are such that others may have them, too: a heap of them. -/
theorem heap_shared {H : GHeapHeap} {w' : World} {M' : Nat → Prop} {b : Nat} {ps : List Value} {lv : Value} (wf : (H.l.length : Int) ≤ H.cells ∧ H.cells ≤ H.room ∧ H.room ≤ 65536) (n2 : ps.length = H.l.length) (head : Has w' b #[.int .i64 H.room, .int .i64 H.cells, lv] 72)
    (row : w'.ownsRow 0 73 1 lv ps.length ps) (objs : ∀ i (h1 : i < H.l.length) (h2 : i < ps.length), objAt w' M' H.l[i] ps[i] .shared) (hb : lv.ownBlock ≠ some b) :
    HeapAt H w' M' (fun k => lv.ownBlock = some k) b (List.replicate H.l.length .shared) ps lv := by
  refine ⟨wf, by simp, n2, head, row, fun i h1 h2 h3 => by simpa using objs i h1 h2, ?_, fun k => ?_⟩
  · rw [rep_flat, List.append_nil]
    cases hl : lv.ownBlock with
    | none => simp
    | some g => rw [hl] at hb; simp; intro e; exact hb (by rw [e])
  · rw [rep_flat, List.append_nil]
    cases lv.ownBlock <;> simp [eq_comm]
theorem oneCell_ps {H : GHeapHeap} {w : World} {M own : Nat → Prop} {b : Nat} {pls : List OPl} {ps : List Value} {lv : Value} (h : HeapAt H w M own b pls ps lv) : ∀ u ∈ ps, u.oneCell' = true := by
  intro u hu
  obtain ⟨i, hi, rfl⟩ := List.getElem_of_mem hu
  have h1 : i < H.l.length := by rw [← h.n2]; exact hi
  obtain ⟨pb, off, v, s, e, _⟩ := obj_cells (h.objs i h1 hi (by rw [h.n1]; exact h1))
  rw [e]; rfl
section hd
variable {H : GHeapHeap} {wr W : World} {b lc : Nat} {la : Option Addr}
theorem hd_below {W' : World} (h : W.cell? ⟨b, 0, none⟩ = some (.int .i64 H.room) ∧ W.cell? ⟨b, 1, none⟩ = some (.int .i64 H.cells) ∧ W.cell? ⟨b, 2, none⟩ = some (.slice la H.l.length lc) ∧ b < W.heap.size ∧ Below wr.heap.size wr W) (hb : Below W.heap.size W W') : W'.cell? ⟨b, 0, none⟩ = some (.int .i64 H.room) ∧ W'.cell? ⟨b, 1, none⟩ = some (.int .i64 H.cells) ∧ W'.cell? ⟨b, 2, none⟩ = some (.slice la H.l.length lc) ∧ b < W'.heap.size ∧ Below wr.heap.size wr W' :=
  ⟨(hb.cell (p := ⟨b, 0, none⟩) h.2.2.2.1).trans h.1, (hb.cell (p := ⟨b, 1, none⟩) h.2.2.2.1).trans h.2.1, (hb.cell (p := ⟨b, 2, none⟩) h.2.2.2.1).trans h.2.2.1, Nat.lt_of_lt_of_le h.2.2.2.1 hb.size, thenB h.2.2.2.2 hb⟩
theorem hd_drew (h : W.cell? ⟨b, 0, none⟩ = some (.int .i64 H.room) ∧ W.cell? ⟨b, 1, none⟩ = some (.int .i64 H.cells) ∧ W.cell? ⟨b, 2, none⟩ = some (.slice la H.l.length lc) ∧ b < W.heap.size ∧ Below wr.heap.size wr W) : W.drew.cell? ⟨b, 0, none⟩ = some (.int .i64 H.room) ∧ W.drew.cell? ⟨b, 1, none⟩ = some (.int .i64 H.cells) ∧ W.drew.cell? ⟨b, 2, none⟩ = some (.slice la H.l.length lc) ∧ b < W.drew.heap.size ∧ Below wr.heap.size wr W.drew := ⟨h.1, h.2.1, h.2.2.1, h.2.2.2.1, belowN h.2.2.2.2 1⟩
theorem hd_clone {ps : List Value} (hr : wr.ownsRow 0 73 1 (.slice la H.l.length lc) ps.length ps) (h1 : ∀ u ∈ ps, u.oneCell' = true) (hl : ps.length = H.l.length ∧ ps.length ≤ 65536) (h : W.cell? ⟨b, 0, none⟩ = some (.int .i64 H.room) ∧ W.cell? ⟨b, 1, none⟩ = some (.int .i64 H.cells) ∧ W.cell? ⟨b, 2, none⟩ = some (.slice la H.l.length lc) ∧ b < W.heap.size ∧ Below wr.heap.size wr W) :
    Calls Try.prog 47 #[.slice la H.l.length lc] W fun e w' => ∃ a2 c2, e = .returned (.slice a2 H.l.length c2) ∧ Below W.heap.size W w' ∧ w'.ownsRow wr.heap.size 73 1 (.slice a2 H.l.length c2) ps.length ps ∧ w'.cell? ⟨b, 0, none⟩ = some (.int .i64 H.room) ∧ w'.cell? ⟨b, 1, none⟩ = some (.int .i64 H.cells) ∧ w'.cell? ⟨b, 2, none⟩ = some (.slice la H.l.length lc) ∧ b < w'.heap.size ∧ Below wr.heap.size wr w' := by
  refine (clone_ptrs (ownsRow_eq hr fun g hg => h.2.2.2.2.block g (owns_lt hr hg)) h1 hl.2).mono ?_
  rintro e w' ⟨v', rfl, hb, hrow⟩
  obtain ⟨a2, c2, rfl⟩ := owns_slice hrow
  rw [hl.1] at hrow ⊢
  exact ⟨a2, c2, rfl, hb, ⟨hrow.1, hrow.2.imp id fun ⟨g, cap, cur, e, q, r⟩ => ⟨g, cap, cur, e, Nat.le_trans h.2.2.2.2.size q, r⟩⟩, hd_below h hb⟩
end hd
set_option maxHeartbeats 8000000 in
set_option maxRecDepth 100000 in
theorem heap_Copy {H : GHeapHeap} {M own : Nat → Prop} {b : Nat} {pls : List OPl} {ps : List Value} {lv : Value} {w : World} (h : HeapAt H w M own b pls ps lv) (hMo : ∀ k, own k → M k) :
    Calls Try.prog 27 #[.pointer (some ⟨b, 0, none⟩)] w fun e w' => ∃ p lv2 wr, e = .returned (.pointer (some ⟨p, 0, none⟩)) ∧ MidC H w wr M pls ps H.l.length ∧ Below wr.heap.size wr w' ∧ wr.heap.size ≤ p ∧ Has w' p #[.int .i64 H.room, .int .i64 H.cells, lv2] 72 ∧ w'.ownsRow wr.heap.size 73 1 lv2 ps.length ps ∧ lv2.ownBlock ≠ some p := by
  have hbd : (H.l.length : Int) ≤ 65536 := by have := h.wf; omega
  have hc := has_cell h.head
  have hsz := has_lt h.head
  have hrow : w.ownsRow 0 73 1 lv H.l.length ps := by have := h.row; rw [h.n2] at this; exact this
  obtain ⟨la, lc, rfl⟩ := owns_slice hrow
  have HR := Lib.hid hrow
  have HB := Lib.hid hbd
  have HMo := Lib.hid hMo
  clear hrow hbd hMo
  go_enter Try.func27, Try.ntmps27
  go_wp2_with fail
  go_loopw [12] (fun q wr => ∃ (k : Nat), q = .int .i64 k ∧ k ≤ H.l.length ∧ MidC H w wr M pls ps k) (fun q _ => H.l.length - (intOf q).toNat)
  case atStart => exact ⟨0, rfl, Nat.zero_le _, ⟨Mod.refl _ _, fun i h1 h2 h3 => objC_of (h.objs i h1 h2 h3)⟩⟩
  case round =>
    obtain ⟨k, rfl, hk, hm⟩ := hrel
    have hbS : b ∉ pls.flatMap OPl.bs := fun hx => (List.nodup_cons.1 h.nodup).1 (List.mem_append.2 (.inr hx))
    have hh := has_mod h.head hm.mod hbS
    by_cases hkn : k = H.l.length
    · have ht : ¬ (k : Int) < H.l.length := by omega
      have HM := Lib.hid hm
      have HH := Lib.hid hh
      replace hbS := Lib.hid hbS
      clear hc hm hh
      go_wp2_with fail
      have hS : wr.cell? ⟨b, 0, none⟩ = some (.int .i64 H.room) ∧ wr.cell? ⟨b, 1, none⟩ = some (.int .i64 H.cells) ∧ wr.cell? ⟨b, 2, none⟩ = some (.slice la H.l.length lc) ∧ b < wr.heap.size ∧ Below wr.heap.size wr wr := ⟨has_cell HH.out 0, has_cell HH.out 1, has_cell HH.out 2, has_lt HH.out, Below.refl _ _⟩
      have hrw : Hid (wr.ownsRow 0 73 1 (.slice la H.l.length lc) ps.length ps) := by
        have hr := HR.out
        rw [← h.n2] at hr ⊢
        exact ownsRow_eq hr fun g hg => HM.out.mod.block g (owns_lt hr hg) fun hx => (List.nodup_append.1 (List.nodup_cons.1 h.nodup).2).2.2 g (by rw [h.n2] at hg; simp [hg]) g hx rfl
      have hone : Hid (∀ u ∈ ps, u.oneCell' = true) := Lib.hid (oneCell_ps h)
      have hlen : Hid (ps.length = H.l.length ∧ ps.length ≤ 65536) := Lib.hid ⟨h.n2, by have := HB.out; have := h.n2; omega⟩
      go_region_held3 (fun W => W.cell? ⟨b, 0, none⟩ = some (.int .i64 H.room) ∧ W.cell? ⟨b, 1, none⟩ = some (.int .i64 H.cells) ∧ W.cell? ⟨b, 2, none⟩ = some (.slice la H.l.length lc) ∧ b < W.heap.size ∧ Below wr.heap.size wr W) (first | assumption | (exact hd_drew (by assumption)) | (exact hd_below (by assumption) (by assumption)) | (exact hd_below (by assumption) ((Below.refl _ _).alloc (Nat.le_refl _) _))) (first | (go_at_call 47; refine (hd_clone hrw.out hone.out hlen.out (by assumption)).mono ?_; rintro e w1 ⟨a2, c2, rfl, hb1, hr1, hs1⟩))
      go_wp2_with fail
      go_ret
      have hmm := HM.out
      rw [hkn] at hmm
      exact ⟨w1.heap.size, _, wr, rfl, hmm, hd_below hs1 ((Below.refl _ _).alloc (Nat.le_refl _) _) |>.2.2.2.2, hs1.2.2.2.2.size, has_new w1 _ _ _ rfl, ownsRow_eq hr1 fun g hg => row_alloc_old _ _ _ (owns_lt hr1 hg), fun e => by have := owns_lt hr1 e; omega⟩
    · have hlt : k < H.l.length := by omega
      have ht : (k : Int) < H.l.length := by omega
      have hk0 : (0 : Int) ≤ k := by omega
      have hp : k < ps.length := by rw [h.n2]; exact hlt
      have hq : k < pls.length := by rw [h.n1]; exact hlt
      obtain ⟨pb, off, fl, hpe, o0, o1, o2, o3⟩ := objC_flag (hm.objs k hlt hp hq)
      have hla : ∃ rb, la = some ⟨rb, 0, none⟩ ∧ rb < wr.heap.size ∧ wr.cell? ⟨rb, k, none⟩ = some (.pointer (some ⟨pb, off, none⟩)) := by
        have row := HR.out
        rcases row.2 with ⟨e1, e2⟩ | ⟨g', cap, cur, e, _, hg', _⟩
        · exact absurd (show H.l.length = 0 by first | exact e1 | exact e2) (by omega)
        · cases e
          have hS : g' ∉ pls.flatMap OPl.bs := fun hx => by
            exact (List.nodup_append.1 (List.nodup_cons.1 h.nodup).2).2.2 g' (by simp [Value.ownBlock]) g' hx rfl
          have hg2 := hm.mod.block g' (lt_of_block hg') hS
          refine ⟨g', rfl, lt_of_block (hg2.trans hg'), ?_⟩
          have := row.cells (g := g') rfl k (ps[k]) (List.getElem?_eq_getElem hp)
          have hadd : (⟨g', 0, none⟩ : Addr).add k = ⟨g', k, none⟩ := by unfold Addr.add; split <;> simp_all
          rw [hadd, hpe] at this
          rw [World.cell?_of_block (w := w) (a := ⟨g', k, none⟩) hg2]
          exact this
      obtain ⟨rb, rfl, hrb, hrc⟩ := hla
      have st := midC_step h HMo.out hm hlt hp hq hpe o1 o3
      replace st := Lib.hid st
      replace hm := Lib.hid hm
      replace hpe := Lib.hid hpe
      replace o3 := Lib.hid o3
      replace hh := Lib.hid hh
      clear hc
      go_wp2_with fail
      have wk : RowKit.wrap64 ((k : Int) + 1) = ((k + 1 : Nat) : Int) := by have := HB.out; unfold RowKit.wrap64; omega
      rw [wk]
      exact ⟨⟨k + 1, rfl, hlt, st.out⟩, meas _ _ hlt⟩
end Go.Proofs.Ytblikpgdepjhdaa
