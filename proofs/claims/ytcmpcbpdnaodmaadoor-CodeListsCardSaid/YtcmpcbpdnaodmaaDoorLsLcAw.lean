/- Parts of the proof. -/
import Derived.Test.YtcmpcbpdnaodmaaDoorLsCodeEncode
import Derived.Laws.IdiomStrings
import Derived.Lib.BufferRead
namespace Go.Proofs.YtcmpcbpdnaodmaaDoor
open Go.RowKit Go.Lib
set_option linter.unusedVariables false
def BytesAt (w : World) (a : Option Addr) (cap : Nat) (l : List UInt8) : Prop :=
  l.length ≤ cap ∧ cap ≤ maxLen ∧ (l = [] ∨ ∃ b off, a = some ⟨b, off, none⟩ ∧ b < w.heap.size ∧ ∀ i (hi : i < l.length), w.cell? ⟨b, off + i, none⟩ = some (byteV l[i]))
theorem bytes_at {w : World} {a : Option Addr} {cap : Nat} {l : List UInt8} (h : BytesAt w a cap l) {i : Nat} (hi : i < l.length) : ∃ b off, a = some ⟨b, off, none⟩ ∧ b < w.heap.size ∧ w.cell? ⟨b, off + i, none⟩ = some (byteV l[i]) := by
  rcases h.2.2 with rfl | ⟨b, off, ha, hb, hc⟩
  · simp at hi
  · exact ⟨b, off, ha, hb, hc i hi⟩
theorem bytes_below {w w' : World} {a : Option Addr} {cap : Nat} {l : List UInt8} (h : BytesAt w a cap l) {B : Nat} (hb : Below B w w') (hB : w.heap.size ≤ B) : BytesAt w' a cap l := by
  obtain ⟨h1, h2, h3⟩ := h
  refine ⟨h1, h2, ?_⟩
  rcases h3 with rfl | ⟨b, off, ha, hb', hc⟩
  · exact .inl rfl
  · exact .inr ⟨b, off, ha, Nat.lt_of_lt_of_le hb' hb.size, fun i hi => (hb.cell (p := ⟨b, _, none⟩) (by show b < B; omega)).trans (hc i hi)⟩
theorem run_bytes_text {P : Program} {w : World} {src dst e : TypeId} {a : Option Addr} {cap n : Nat} {l : List UInt8} (H : BytesAt w a cap l) (hn : n = l.length)
    (hs : P.underlying src = some (.slice e)) (he : P.underlying e = some (.int .u8)) (hd : P.underlying dst = some .string) : (convert src dst (.slice a n cap)).run P w = .ok (strVl l) w := by
  subst hn
  cases a with
  | none =>
    have h0 : l = [] := by
      rcases H.2.2 with h | ⟨b, off, h, _⟩
      · exact h
      · simp at h
    subst h0
    exact Go.Lib.run_convert_nil_bytes w src dst e cap hs he hd
  | some p => exact run_convert_bytes_back (P := P) w src dst e p cap l hs he hd (fun j hj => by
      obtain ⟨b', off', e', _, hc⟩ := bytes_at H hj
      simp at e'
      subst e'
      have hadd : (⟨b', off', none⟩ : Addr).add j = ⟨b', off' + j, none⟩ := by unfold Addr.add; split <;> simp_all
      rw [hadd]; exact hc)
theorem code_nil (w : World) : CodeAt w (.slice none 0 0) (.slice none 0 0) (.slice none 0 0) ([], [], []) :=
  ⟨SliceF.nil _ _ _, SliceF.nil _ _ _, SliceF.nil _ _ _, by simp, by simp, by simp⟩
theorem bytes_of_owns {w : World} {base : Nat} {a : Option Addr} {c : Nat} {xs : List UInt8} (h : w.ownsRow base 5 1 (.slice a xs.length c) xs.length (xs.map byteV)) : BytesAt w a c xs := by
  obtain ⟨hl, h⟩ := h
  rcases h with ⟨he, h0⟩ | ⟨g, cap, cur, he, _, hg, hn, hm, hs, ht⟩
  · simp at he
    obtain ⟨rfl, _, rfl⟩ := he
    exact ⟨by omega, by simp [maxLen], .inl (List.length_eq_zero_iff.1 h0)⟩
  · simp at he
    obtain ⟨rfl, rfl⟩ := he
    refine ⟨hn, hm, .inr ⟨g, 0, rfl, lt_of_block hg, fun i hi => ?_⟩⟩
    rw [Nat.zero_add, cell_of_row w g i cur _ (0, 0) hg]
    have h2 : (xs.map byteV)[i]? = some (byteV xs[i]) := by simp [hi]
    rw [← ht, List.getElem?_take_of_lt (by omega)] at h2
    simpa using h2
theorem enc_yes (v1 v2 v3 : Value) (c : CCode) (w : World) (hc : CodeAt w v1 v2 v3 c) (hm : mayC c = true) :
    Calls Tryd.prog 11 #[.agg #[v1, v2, v3]] w fun e w' => Below w.heap.size w w' ∧ ∃ a cap, e = .returned (.tuple #[.slice a (encC c).length cap, .int .i64 0]) ∧ BytesAt w' a cap (encC c) := by
  refine (code_Encode v1 v2 v3 c w hc).mono ?_
  rintro e w' ⟨hb, ⟨h, _⟩ | ⟨_, a, cap, he, ho⟩⟩
  · rw [hm] at h; exact absurd h (by simp)
  · exact ⟨hb, a, cap, he, bytes_of_owns ho⟩
theorem text_eq {w : World} {a : Option Addr} {cap : Nat} {l : List UInt8} (H : BytesAt w a cap l) : (convert 32 9 (.slice a l.length cap)).run Tryd.prog w = .ok (.string ⟨l.toArray⟩) w := by
  have cv1 : Tryd.prog.underlying 32 = some (.slice 5) := by kernel_rfl
  have cv2 : Tryd.prog.underlying 5 = some (.int .u8) := by kernel_rfl
  have cv3 : Tryd.prog.underlying 9 = some .string := by kernel_rfl
  exact run_bytes_text H rfl cv1 cv2 cv3
def exC : CCode := ([(2, -1, 0)], [(0, 1, 0, 0, 0)], [])
theorem exC_enc : encC exC = [0, 1, 1, 0, 0, 0, 2, 1, 0] := by decide +kernel
theorem exC_may : mayC exC = true := by decide +kernel
theorem nilC_enc : encC ([], [], []) = [0, 0] := by decide +kernel
theorem nilC_may : mayC ([], [], []) = true := by decide +kernel
theorem exC_at (w : World) (b1 b2 : Nat) (h1 : Has w b1 #[.int .u8 2, .int .i64 (-1), .int .i64 0] 37) (h2 : Has w b2 #[.int .i64 0, .int .i64 1, .int .i64 0, .int .i64 0, .int .i64 0] 39) :
    CodeAt w (.slice (some ⟨b1, 0, none⟩) 1 1) (.slice (some ⟨b2, 0, none⟩) 1 1) (.slice none 0 0) exC := by
  refine ⟨⟨_, _, rfl, by simp [exC, maxLen], fun i hi => ⟨b1, 0, rfl, has_lt h1, fun j hj => ?_⟩⟩, ⟨_, _, rfl, by simp [exC, maxLen], fun i hi => ⟨b2, 0, rfl, has_lt h2, fun j hj => ?_⟩⟩, SliceF.nil _ _ _, ?_, ?_, ?_⟩
  · obtain rfl : i = 0 := by simp [exC] at hi; omega
    rw [has_cell h1]
    rcases (show j = 0 ∨ j = 1 ∨ j = 2 by omega) with rfl | rfl | rfl <;> rfl
  · obtain rfl : i = 0 := by simp [exC] at hi; omega
    rw [has_cell h2]
    rcases (show j = 0 ∨ j = 1 ∨ j = 2 ∨ j = 3 ∨ j = 4 by omega) with rfl | rfl | rfl | rfl | rfl <;> rfl
  · intro x hx; simp [exC] at hx; subst hx; exact ⟨by decide, ⟨by decide, by decide⟩, ⟨by decide, by decide⟩⟩
  · intro x hx; simp [exC] at hx; subst hx; exact ⟨⟨by decide, by decide⟩, ⟨by decide, by decide⟩, ⟨by decide, by decide⟩, ⟨by decide, by decide⟩, ⟨by decide, by decide⟩⟩
  · intro x hx; simp [exC] at hx
set_option maxHeartbeats 1000000 in
set_option maxRecDepth 100000 in
theorem awake15 (w : World) : Calls Tryd.prog 5 #[] w fun e w' => e = .returned (.bool true) ∧ Below w.heap.size w w' := by
  have hE1 := fun w => enc_yes (.slice none 0 0) (.slice none 0 0) (.slice none 0 0) ([], [], []) w (code_nil w) nilC_may
  rw [nilC_enc] at hE1
  have HE1 := Lib.hid hE1; clear hE1
  go_enter Tryd.func5, Tryd.ntmps5
  go_wp2_with fail
  refine (HE1.out _).mono ?_
  rintro e w1 ⟨hb1, a1, c1, rfl, hy1⟩
  have HB1 := Lib.hid hb1; have HY1 := Lib.hid hy1; clear hb1 hy1 HE1
  dsimp only [List.length_cons, List.length_nil]
  go_wp2_with fail
  have hE2 := enc_yes (.slice (some ⟨w1.heap.size, 0, none⟩) 1 1) (.slice (some ⟨w1.heap.size + 1, 0, none⟩) 1 1) (.slice none 0 0) exC ((w1.alloc (.cells #[.int .u8 2, .int .i64 (-1), .int .i64 0] 37)).alloc (.cells #[.int .i64 0, .int .i64 1, .int .i64 0, .int .i64 0, .int .i64 0] 39)) (exC_at _ _ _ (by exact (by repeat' (first | assumption | (refine has_drewN ?_ _) | (refine has_drew ?_) | (refine has_new _ _ _ _ ?_ <;> (first | rfl | (simp; done))) | (refine has_alloc ?_ _) | (refine has_setCell ?_ _ _ (by first | assumption | (simp; omega) | omega)) | (refine has_setRow ?_ _ _ (by first | assumption | (simp; omega) | omega)) | (refine has_belowT ?_ (by assumption))))) (by exact (by repeat' (first | assumption | (refine has_drewN ?_ _) | (refine has_drew ?_) | (refine has_new _ _ _ _ ?_ <;> (first | rfl | (simp; done))) | (refine has_alloc ?_ _) | (refine has_setCell ?_ _ _ (by first | assumption | (simp; omega) | omega)) | (refine has_setRow ?_ _ _ (by first | assumption | (simp; omega) | omega)) | (refine has_belowT ?_ (by assumption)))))) exC_may
  rw [exC_enc] at hE2
  refine hE2.mono ?_
  clear hE2
  rintro e w2 ⟨hb2, a2, c2, rfl, hy2⟩
  have hb12 : Below w1.heap.size w1 w2 := thenB (w := w1) (by exact (by repeat' (first | exact Below.refl _ _ | assumption | (refine thenB ?_ (by assumption)) | (refine belowN ?_ _) | (refine Below.alloc ?_ (by first | simp; done | (simp; omega) | omega) _) | (refine below_setRow ?_ (by first | simp; done | (simp; omega) | omega) _) | (refine Below.setCell ?_ (by first | simp; done | (simp; omega) | omega) _)))) hb2
  obtain ⟨b, off, rfl, hbl, g0⟩ := bytes_at hy2 (i := 7) (by decide)
  have hcv := text_eq (bytes_below HY1.out hb12 (Nat.le_refl _))
  have HB2 := Lib.hid hb2; have HB12 := Lib.hid hb12; clear hb2 hb12
  have HY2 := Lib.hid hy2; clear hy2
  dsimp only [List.length_cons, List.length_nil] at hcv ⊢
  simp only [List.getElem_cons_succ, List.getElem_cons_zero] at g0
  go_wp2_with fail
  go_ret
  exact ⟨rfl, thenB HB1.out HB12.out⟩
end Go.Proofs.YtcmpcbpdnaodmaaDoor
