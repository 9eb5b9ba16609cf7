/- A heap that is the same: the contract. -/
import Derived.Test.YtblikpgdepjhdaaHpCopy
namespace Go.Proofs.Ytblikpgdepjhdaa
open Go.RowKit
set_option linter.unusedVariables false
set_option maxHeartbeats 4000000

def xheap_Heap_Copy (H : GHeapHeap) : Option (Option GHeapHeap × GHeapHeap) := some (some H, H)
theorem xheap_Heap_Copy_ok {H : GHeapHeap} {r : Option GHeapHeap × GHeapHeap} (h : xheap_Heap_Copy H = some r) : RI_heap_Heap_Copy H r := by
  cases h
  refine ⟨by kernel_rfl, fun C L vals hP hpin hs hsz hrep => ?_⟩
  have hmem : (mst [(900, Blk.obj (.any (rep_GHeapHeap H)))]).mem 900 = some (.obj (.any (rep_GHeapHeap H))) := rfl
  obtain ⟨b, ob, hb, hw, pls, ps, lv, hat⟩ := (hs.mem 900 _ hmem).2
  have hM : ∀ k, Mut C (mst [(900, Blk.obj (.any (rep_GHeapHeap H)))]) L k → k < C.w0.heap.size := fun k hk => by
    rcases hk with hx | ⟨i, h1, h2⟩
    · exact hs.old k hx
    · exact (hs.out i k h1 h2).2.1
  have hMo : ∀ k, (L 900).own k → Mut C (mst [(900, Blk.obj (.any (rep_GHeapHeap H)))]) L k := fun k hk => .inr ⟨900, rfl, .inr hk⟩
  have hv0 : vals.getD 0 undef = .pointer (some ⟨b, 0, none⟩) := by
    have h0 := hrep 0 (by simp)
    simp only [List.getElem_cons_zero] at h0
    generalize vals.getD 0 undef = v0 at h0
    cases h0 with
    | ob _ _ h1 hu hq => rw [hq _ hmem]; simp [Loc.ob, Od.isMap, hb]
  have h1 : HeapAt H C.w0 (fun k => Mut C (mst [(900, Blk.obj (.any (rep_GHeapHeap H)))]) L k ∨ C.w0.heap.size ≤ k) (L 900).own b pls ps lv := hat.ext (Ext.refl _ _) (fun k hk hm => hm.elim id fun x => by omega) rfl fun _ _ => rfl
  rw [vals1 (by simpa using hsz) hv0]
  refine (heap_Copy h1 (fun k hk => .inl (hMo k hk))).mono ?_
  rintro e w' ⟨p, lv2, wr, rfl, hmc, hB, hp, hnew, hrow2, hlp⟩
  have hrs := hmc.mod.size
  have hlt2 := has_lt hnew
  have hxo : ∀ k, C.X k → ¬ (L 900).has k := fun k hx hl => (hs.out 900 k rfl hl).1 hx
  have hl2 : ∀ k, lv2.ownBlock = some k → wr.heap.size ≤ k ∧ k < w'.heap.size := fun k hk => by
    refine ⟨?_, owns_lt hrow2 hk⟩
    rcases hrow2.2 with hx | ⟨g', cap, cur, e, h3, _⟩
    · have e2 : lv2 = .slice none 0 0 := by first | exact hx.1 | exact hx.2
      rw [e2] at hk; simp [Value.ownBlock] at hk
    · rw [e] at hk; simp [Value.ownBlock] at hk; omega
  have hlv : ∀ k, lv.ownBlock = some k → (L 900).own k := fun k hk => (hat.owns k).2 (List.mem_append.2 (.inl (by simp [hk])))
  have hflat : ∀ k, k ∈ pls.flatMap OPl.bs → (L 900).own k := fun k hk => (hat.owns k).2 (List.mem_append.2 (.inr hk))
  have hbn := (List.nodup_cons.1 hat.nodup).1
  have hnd := (List.nodup_append.1 (List.nodup_cons.1 hat.nodup).2).2.2
  let m' : List (Nat × Blk) := [(900, .obj (.any (rep_GHeapHeap H))), (700000, .obj (.any (rep_GHeapHeap H)))]
  have hm9 : (mst m').mem 900 = some (.obj (.any (rep_GHeapHeap H))) := rfl
  have hm7 : (mst m').mem 700000 = some (.obj (.any (rep_GHeapHeap H))) := rfl
  have keyS : ∀ i, ((mst m').mem i).isSome = true → i = 900 ∨ i = 700000 := fun i hi => by
    by_cases e : i = 900
    · exact .inl e
    · by_cases e' : i = 700000
      · exact .inr e'
      · simp [m', mkSt, look, upd, e, e'] at hi
  let L' := upd (upd L 900 ⟨some b, (L 900).cap, fun k => lv.ownBlock = some k⟩) 700000 ⟨some p, 0, fun k => lv2.ownBlock = some k⟩
  have hL9 : L' 900 = ⟨some b, (L 900).cap, fun k => lv.ownBlock = some k⟩ := by simp [L', upd]
  have hL7 : L' 700000 = ⟨some p, 0, fun k => lv2.ownBlock = some k⟩ := by simp [L', upd]
  have hbl : b < C.w0.heap.size := has_lt hat.head
  have h9 : ∀ k, (L' 900).has k → (k = b ∨ lv.ownBlock = some k) ∧ k < C.w0.heap.size ∧ (L 900).has k := fun k hk => by
    rw [hL9] at hk
    rcases hk with hk | hk
    · cases hk; exact ⟨.inl rfl, hbl, .inl hb⟩
    · exact ⟨.inr hk, hat.lt (hlv k hk), .inr (hlv k hk)⟩
  have h7 : ∀ k, (L' 700000).has k → wr.heap.size ≤ k ∧ k < w'.heap.size := fun k hk => by
    rw [hL7] at hk
    rcases hk with hk | hk
    · cases hk; exact ⟨hp, hlt2⟩
    · exact hl2 k hk
  have hblock : ∀ k, k < C.w0.heap.size → k ∉ pls.flatMap OPl.bs → w'.heap[k]? = C.w0.heap[k]? := fun k hk hn => (hB.block k (by omega)).trans (hmc.mod.block k hk hn)
  have hmut : ∀ k, Mut C (mst m') L' k → C.X k ∨ (k = b ∨ lv.ownBlock = some k) ∨ wr.heap.size ≤ k := fun k hk => by
    rcases hk with hx | ⟨i, hi, hl⟩
    · exact .inl hx
    · rcases keyS i hi with rfl | rfl
      · exact .inr (.inl (h9 k hl).1)
      · exact .inr (.inr (h7 k hl).1)
  have hobjs : ∀ i (a1 : i < H.l.length) (a2 : i < ps.length), objAt w' (Mut C (mst m') L') H.l[i] ps[i] .shared := fun i a1 a2 => by
    have a3 : i < pls.length := by rw [hat.n1]; exact a1
    have hc := hmc.objs i a1 a2 a3
    rw [show decide (i < H.l.length) = true by simpa using a1] at hc
    have hsh := objC_shared (M' := Mut C (mst m') L') hc (fun k hk hm => by
      rcases hmut k hm with hx | hx | hx
      · exact .inl (.inl hx)
      · rcases hx with rfl | hx
        · exact .inl (.inr ⟨900, rfl, .inl hb⟩)
        · exact .inl (hMo k (hlv k hx))
      · omega) (fun k hk hm => by
      obtain ⟨q1, q2, q3⟩ := hat.bs_own a3 hk
      rcases hmut k hm with hx | hx | hx
      · exact hxo k hx (.inr q1)
      · rcases hx with hx | hx
        · exact q2 hx
        · exact q3 hx
      · have := hat.lt q1; omega)
    exact objAt_eq hsh ⟨hB.size, fun k hk _ => hB.block k hk⟩ (fun _ _ h => h) (fun k hk => by simp [OPl.bs] at hk)
  have hhead : Has w' b #[.int .i64 H.room, .int .i64 H.cells, lv] 72 := (hblock b hbl fun hx => hbn (List.mem_append.2 (.inr hx))).trans hat.head
  have hrow : w'.ownsRow 0 73 1 lv ps.length ps := ownsRow_eq hat.row fun g hg => hblock g (hat.lt (hlv g hg)) fun hx => hnd g (by simp [hg]) g hx rfl
  have A1 := heap_shared (M' := Mut C (mst m') L') hat.wf hat.n2 hhead hrow hobjs (fun e => hbn (List.mem_append.2 (.inl (by simp [e]))))
  have hrow2' : w'.ownsRow 0 73 1 lv2 ps.length ps := ⟨hrow2.1, hrow2.2.imp id fun ⟨g', cap, cur, e, _, r⟩ => ⟨g', cap, cur, e, Nat.zero_le _, r⟩⟩
  have A2 := heap_shared (M' := Mut C (mst m') L') hat.wf hat.n2 hnew hrow2' hobjs hlp
  have hsim : SimL C (mst m') L' noAct w' := by
    refine hs.next0 rfl rfl rfl (hB.os.trans hmc.mod.os) (hB.tape.trans hmc.mod.tape) (hB.output.trans hmc.mod.output) (Nat.le_trans hrs hB.size) (fun k hk hn => hblock k hk fun hx => hn ⟨900, rfl, .inr (hflat k hx)⟩) (fun i hi => ?_) (fun i hi b' hb' => ?_) (fun i k hi hl => ?_) (fun i j k hi hj h1 h2 => ?_) (fun i hi hf => ?_) (fun i b' hb' => ?_) (fun t => .inl ⟨rfl, rfl⟩)
    · have := mst_oneU hi
      subst this; rfl
    · have := mst_oneU hi
      subst this
      rw [hm9] at hb'
      cases hb'
      exact ⟨_, hmem, Blk.alike_refl _, by rw [hL9]; exact ⟨hb.symm, rfl⟩⟩
    · rcases keyS i hi with rfl | rfl
      · exact .inr ⟨900, rfl, (h9 k hl).2.2⟩
      · have := h7 k hl; exact .inl (by omega)
    · rcases keyS i hi with rfl | rfl <;> rcases keyS j hj with rfl | rfl
      · rfl
      · have := (h9 k h1).2.1; have := (h7 k h2).1; omega
      · have := (h9 k h2).2.1; have := (h7 k h1).1; omega
      · rfl
    · rcases keyS i hi with rfl | rfl
      · cases hf
      · exact .inr (by decide)
    · rcases keyS i (by rw [hb']; rfl) with rfl | rfl
      · rw [hm9] at hb'
        cases hb'
        refine ⟨rfl, .inr ⟨b, _, by rw [hL9], hhead, ?_⟩⟩
        rw [hL9]
        exact ⟨_, _, _, A1⟩
      · rw [hm7] at hb'
        cases hb'
        refine ⟨rfl, .inr ⟨p, _, by rw [hL7], hnew, ?_⟩⟩
        rw [hL7]
        exact ⟨_, _, _, A2⟩
  refine ⟨_, L', rfl, hsim, .ob 700000 _ rfl rfl fun od hod => ?_⟩
  have hod' : (mst m').mem 700000 = some (.obj od) := hod
  rw [hm7] at hod'
  cases hod'
  rw [show Loc.ob (L' 700000) _ = _ from congrArg (fun l => Loc.ob l _) hL7]
  simp [Loc.ob, Od.isMap]
end Go.Proofs.Ytblikpgdepjhdaa
