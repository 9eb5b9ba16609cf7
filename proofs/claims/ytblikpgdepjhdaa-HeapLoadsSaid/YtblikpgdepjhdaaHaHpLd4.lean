/- Parts of the proof. -/
import Derived.Test.YtblikpgdepjhdaaHaHpLd3
namespace Go.Proofs.Ytblikpgdepjhdaa
open Go.RowKit
set_option linter.unusedVariables false
set_option maxHeartbeats 8000000
set_option maxRecDepth 100000
theorem cells_same {H : GHeapHeap} {M own : Nat → Prop} {b : Nat} {pls : List OPl} {ps : List Value} {lv : Value} {w : World} (h : HeapAt H w M own b pls ps lv) :
    Calls Try.prog 13 #[.pointer (some ⟨b, 0, none⟩)] w fun e w' => e = .returned (.int .i64 H.cells) ∧ w' = w := by
  have hc := has_cell h.head
  have hf := has_free h.head
  have hsz := has_lt h.head
  go_enter Try.func13, Try.ntmps13
  go_wp2_with fail
  go_ret
  exact ⟨rfl, rfl⟩
theorem cells_nil (w : World) : Calls Try.prog 13 #[.pointer none] w fun e w' => e = .returned (.int .i64 0) ∧ w' = w := by
  go_enter Try.func13, Try.ntmps13
  go_wp2_with fail
  go_ret
  exact ⟨rfl, rfl⟩
theorem hload_none {c : Int} {l : List GApiObj} (h1 : (loadR c l).1 = none) (hok : loadOk l) {w : World} {v : Value} (hv : ObjsT w l v) :
    Calls Try.prog 11 #[.int .i64 c, v] w fun e w' => e = .returned (.tuple #[.pointer none, .int .i64 (loadR c l).2]) ∧ Below w.heap.size w w' := by
  unfold loadR at h1 ⊢
  by_cases hc : c < 0 ∨ 65536 < c
  · rw [if_pos hc]; exact heap_LoadBad c _ w hc
  · rw [if_neg hc] at h1 ⊢
    have hc0 : 0 ≤ c := by omega
    have hc1 : c ≤ 65536 := by omega
    cases hm : l.any (fun o => !mayB o) with
    | true => rw [if_pos rfl]; exact heap_LoadMay c l _ w hc0 hc1 hok.1 _ (fun _ h => h.elim) hv hm
    | false =>
      rw [hm, if_neg (by simp)] at h1
      rw [if_neg (by simp)]
      cases hl : (GHeapHeap.new c).loads l with
      | some H => rw [hl] at h1; cases h1
      | none =>
        refine (heap_LoadOk c l _ w hc0 hc1 hok _ (fun _ h => h.elim) hv hm).mono ?_
        rintro e w' (⟨_, h1, h2⟩ | ⟨H, h1, _⟩)
        · exact ⟨h1, h2⟩
        · rw [hl] at h1; cases h1
theorem hload_some {c : Int} {l : List GApiObj} {H : GHeapHeap} (h1 : (loadR c l).1 = some H) (hok : loadOk l) {w : World} {v : Value} (hv : ObjsT w l v) :
    Calls Try.prog 11 #[.int .i64 c, v] w fun e w' => e = .returned (.tuple #[.pointer (some ⟨w.heap.size, 0, none⟩), .int .i64 0]) ∧ NewAt H w w' w.heap.size := by
  unfold loadR at h1
  by_cases hc : c < 0 ∨ 65536 < c
  · rw [if_pos hc] at h1; cases h1
  · rw [if_neg hc] at h1
    have hc0 : 0 ≤ c := by omega
    have hc1 : c ≤ 65536 := by omega
    cases hm : l.any (fun o => !mayB o) with
    | true => rw [hm, if_pos rfl] at h1; cases h1
    | false =>
      rw [hm, if_neg (by simp)] at h1
      cases hl : (GHeapHeap.new c).loads l with
      | none => rw [hl] at h1; cases h1
      | some H' =>
        rw [hl] at h1
        cases h1
        refine (heap_LoadOk c l _ w hc0 hc1 hok _ (fun _ h => h.elim) hv hm).mono ?_
        rintro e w' (⟨h1, _⟩ | ⟨H', h1, rfl, hN⟩)
        · rw [hl] at h1; cases h1
        · rw [hl] at h1; cases h1
          exact ⟨rfl, hN⟩
theorem loads_great {c : Int} {l : List GApiObj} {v : Value} {W : World} (hv : ObjsT W l v) (hg : r11_Great l = some true) :
    Calls Try.prog 3 #[.int .i64 c, v] W fun e w' => e = .returned (.bool true) ∧ Below W.heap.size W w' := by
  have HV := Lib.hid hv
  have HG := Lib.hid hg
  clear hv hg
  go_enter Try.func3, Try.ntmps3
  go_wp2_with (first
    | (go_at_call 9; go_must (refine (call_great HG.out HV.out).mono ?_; rintro e w1 ⟨rfl, hb1⟩))
    | (go_at_call 10; go_must (refine (call_awake _).mono ?_; rintro e w2 ⟨rfl, hb2⟩)))
  go_ret
  exact ⟨rfl, hb1.trans (hb2.mono hb1.size)⟩
end Go.Proofs.Ytblikpgdepjhdaa
