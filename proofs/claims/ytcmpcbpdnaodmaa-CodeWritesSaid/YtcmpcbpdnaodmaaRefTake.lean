/- The reference's take and upTo. -/
import Derived.Test.YtcmpcbpdnaodmaaDecState
namespace Go.Proofs.Ytcmpcbpdnaodmaa
open Go.RowKit Go.Lib
set_option linter.unusedVariables false

theorem take_step {n i c : Nat} (hn : n < 2 ^ (7 * i)) (hi : i ≤ 9) (hc : c < 256) (h9 : i = 9 → c ≤ 1) :
    IntKind.u64.wrap ((n : Int) + IntKind.u64.wrap ((c : Int) % 128 * 2 ^ (7 * i))) = ((n + c % 128 * 2 ^ (7 * i) : Nat) : Int) ∧ n + c % 128 * 2 ^ (7 * i) < 2 ^ (7 * (i + 1)) := by
  rcases (show i = 0 ∨ i = 1 ∨ i = 2 ∨ i = 3 ∨ i = 4 ∨ i = 5 ∨ i = 6 ∨ i = 7 ∨ i = 8 ∨ i = 9 by omega) with rfl | rfl | rfl | rfl | rfl | rfl | rfl | rfl | rfl | rfl
  all_goals
    simp only [Nat.reduceMul, Nat.reduceAdd, Nat.reducePow, Int.reducePow] at hn ⊢
    have h9' := h9
    simp only [Nat.reduceEqDiff, false_implies, true_implies] at h9'
    rw [show IntKind.u64.wrap ((c : Int) % 128 * _) = (c : Int) % 128 * _ from u64_wrap_id _ (by omega) (by omega), u64_wrap_id _ (by omega) (by omega)]
    omega
/-- Two results, the second one a struct that lies in a variable. -/
theorem results_tmp_cell {fn : Func} {p u : Tmp} {ty : TypeId} (h : fn.results = #[.tmp u, .cell p ty]) (tmps : Array Value) (P : Program) (w : World) :
    (results fn tmps).run P w =
      ((asAddr (tmps.getD p undef)).run P w).andThen fun a w₁ => ((loadVar ty a).run P w₁).andThen fun v w₂ => .ok (.tuple #[tmps.getD u undef, v]) w₂ := by
  simp only [results, h]
  simp [Sem.run_bind, Result.andThen]
theorem ret_tmp_row {P : Program} {fn : Func} {R : Ending → World → Prop} {a : Act} {w : World} {p u : Tmp} {ty : TypeId} (h : fn.results = #[.tmp u, .cell p ty]) (g : Nat) (t : TypeId) (cs : Array Value) (fr : Nat × Nat) (d : TypeDesc)
    (hp : a.tmps.getD p undef = .pointer (some ⟨g, 0, none⟩)) (hg : w.heap[g]? = some (.cells cs t fr))
    (hu : P.underlying ty = some d) (hd : (match d with | .struct _ | .array _ _ => true | _ => false) = true) (hi : (P.info? ty).map (·.size) = some cs.size)
    (hde : a.defers = []) (y : Value) (hy : a.tmps.getD u undef = y) (hR : R (.returned (.tuple #[y, .agg cs])) w) : bodyPost P fn R .ret a w :=
  bodyPost_ret (by
    rw [results_tmp_cell h, hp, hy]
    simp [asAddr, Sem.run_pure, Result.andThen_ok, run_loadVar_row w g t ty cs fr d hg hu hd hi]) hde hR
def TakePost (w : World) (a : Option Addr) (cap : Nat) (b : List UInt8) (res : Value) (q : Rd) (e : Ending) (w' : World) : Prop :=
  Below w.heap.size w w' ∧ ∃ I' : Nat, I' ≤ b.length ∧ b.drop I' = q.2 ∧ e = .returned (.tuple #[res, .agg #[.slice a b.length cap, .int .i64 I', .int .i64 q.1]])
set_option maxRecDepth 100000 in
set_option maxHeartbeats 1000000 in
theorem ref_take (a : Option Addr) (cap : Nat) (b : List UInt8) (w : World) (hb : BytesAt w a cap b) (I E : Nat) (hI : I ≤ b.length) :
    Calls Try.prog 24 #[.agg #[.slice a b.length cap, .int .i64 I, .int .i64 E]] w (TakePost w a cap b (.int .u64 ((rNum (E, b.drop I)).1 : Nat)) (rNum (E, b.drop I)).2) := by
  have h1 := hb.1
  have h2 := hb.2.1
  unfold maxLen at h2
  have HB := Lib.hid hb; clear hb
  by_cases he : E = 0
  · subst he
    have hbo : (((0 : Nat) : Int) != 0) = false := by decide
    go_enter Try.func24, Try.ntmps24
    go_wp2_with fail
    go_loop [4, 5, 6] (fun n i c => ∃ i0 n0 : Nat, n = .int .u64 n0 ∧ i = .int .i64 i0 ∧ takeN i0 n0 ((b.drop I).drop i0) = takeN 0 0 (b.drop I) ∧ n0 < 2 ^ (7 * i0) ∧ i0 ≤ 9 ∧ I + i0 ≤ b.length) (fun n i _ => b.length - (intOf i).toNat)
    case atStart => exact ⟨0, 0, rfl, rfl, by simp, by simp, by omega, by omega⟩
    case round =>
      obtain ⟨i, n, rfl, rfl, ht, hn, hi, hir⟩ := hrel
      have HT := Lib.hid ht; clear ht
      have HN := Lib.hid hn; clear hn
      have hi10 : (i : Int) < 10 := by omega
      by_cases hlt : I + i = b.length
      · have e1 : (b.length : Int) ≤ I + i := by omega
        have hS : Hid (rNum (0, b.drop I) = (0, 15, b.drop I)) := Lib.hid (num_short HT.out (by rw [List.length_drop]; omega))
        have HL := Lib.hid hlt; clear hlt
        go_wp2_with fail
        go_region
        all_goals
          go_wp2_with fail
          refine ret_tmp_row (p := 3) (u := 2) (by rfl) (w.heap.size + 1) 61 #[.slice a b.length cap, .int .i64 I, .int .i64 15] (0, 0) _ (by rfl) (by exact (by repeat' (first | assumption | (refine has_drewN ?_ _) | (refine has_drew ?_) | (refine has_new _ _ _ _ ?_ <;> (first | rfl | (simp; done))) | (refine has_alloc ?_ _) | (refine has_setCell ?_ _ _ (by first | assumption | (simp; omega) | omega)) | (refine has_setRow ?_ _ _ (by first | assumption | (simp; omega) | omega)) | (refine has_belowT ?_ (by assumption))))) Try.underlying61 rfl (by kernel_rfl) (by rfl) (.int .u64 0) (by rfl) ?_
          rw [hS.out]
          exact ⟨(by repeat' (first | exact Below.refl _ _ | assumption | (refine thenB ?_ (by assumption)) | (refine belowN ?_ _) | (refine Below.alloc ?_ (by first | simp; done | (simp; omega) | omega) _) | (refine below_setRow ?_ (by first | simp; done | (simp; omega) | omega) _) | (refine Below.setCell ?_ (by first | simp; done | (simp; omega) | omega) _))), I, hI, rfl, rfl⟩
      · have hil : i < (b.drop I).length := by rw [List.length_drop]; omega
        have hilb : I + i < b.length := by omega
        have hgb : (b.drop I)[i] = b[I + i] := by simp
        obtain ⟨bb, off, rfl, hblt, g0⟩ := bytes_at HB.out hilb
        have hc256 := UInt8.toNat_lt b[I + i]
        have hT1 := Lib.hid (num_bad HT.out hil)
        have hT2 := Lib.hid (num_done HT.out hil)
        have hT3 := Lib.hid (num_more HT.out hil)
        have hVS := Lib.hid (fun h9 => take_step HN.out hi hc256 h9)
        rw [hgb] at hT1 hT2 hT3
        unfold byteV at g0
        clear hgb
        generalize b[I + i].toNat = c at *
        have e1 : ¬(b.length : Int) ≤ I + i := by omega
        have hin : (I : Int) + i < b.length := by omega
        have hcs : (i = 9 ∧ 1 < c) ∨ (i = 9 ∧ c = 0) ∨ (i ≠ 9 ∧ 0 < i ∧ c = 0) ∨ (i = 9 ∧ c ≤ 1 ∧ c ≠ 0) ∨ (i ≠ 9 ∧ i = 0) ∨ (i ≠ 9 ∧ 0 < i ∧ c ≠ 0) := by omega
        rcases hcs with ⟨h9, hc1⟩ | ⟨h9, hc0⟩ | ⟨h9, hi0, hc0⟩ | ⟨h9, hc1, hc0⟩ | ⟨h9, hi0⟩ | ⟨h9, hi0, hc0⟩
        · have e9 : ((i : Int) == 9) = true := by rw [beq_iff_eq]; omega
          have e0 : ((c : Int) == 0) = false := by rw [beq_eq_false_iff_ne]; omega
          have hi0 : (0 : Int) < i := by omega
          have hc1' : (1 : Int) < c := by omega
          have hS : Hid (rNum (0, b.drop I) = (0, 2, b.drop I)) := Lib.hid (hT1.out (.inl ⟨h9, hc1⟩))
          have H9 := Lib.hid h9; clear h9
          go_wp2_with fail
          go_region
          all_goals
            go_wp2_with fail
            refine ret_tmp_row (p := 3) (u := 2) (by rfl) (w.heap.size + 1) 61 #[.slice (some ⟨bb, off, none⟩) b.length cap, .int .i64 I, .int .i64 2] (0, 0) _ (by rfl) (by exact (by repeat' (first | assumption | (refine has_drewN ?_ _) | (refine has_drew ?_) | (refine has_new _ _ _ _ ?_ <;> (first | rfl | (simp; done))) | (refine has_alloc ?_ _) | (refine has_setCell ?_ _ _ (by first | assumption | (simp; omega) | omega)) | (refine has_setRow ?_ _ _ (by first | assumption | (simp; omega) | omega)) | (refine has_belowT ?_ (by assumption))))) Try.underlying61 rfl (by kernel_rfl) (by rfl) (.int .u64 0) (by rfl) ?_
            rw [hS.out]
            exact ⟨(by repeat' (first | exact Below.refl _ _ | assumption | (refine thenB ?_ (by assumption)) | (refine belowN ?_ _) | (refine Below.alloc ?_ (by first | simp; done | (simp; omega) | omega) _) | (refine below_setRow ?_ (by first | simp; done | (simp; omega) | omega) _) | (refine Below.setCell ?_ (by first | simp; done | (simp; omega) | omega) _))), I, hI, rfl, rfl⟩
        · have e9 : ((i : Int) == 9) = true := by rw [beq_iff_eq]; omega
          have e0 : ((c : Int) == 0) = true := by rw [beq_iff_eq]; omega
          have hi0' : (0 : Int) < i := by omega
          have hS : Hid (rNum (0, b.drop I) = (0, 2, b.drop I)) := Lib.hid (hT1.out (.inr ⟨by omega, hc0⟩))
          have H9 := Lib.hid h9; clear h9
          have H0 := Lib.hid hc0; clear hc0
          go_wp2_with fail
          go_region
          all_goals
            go_wp2_with fail
            refine ret_tmp_row (p := 3) (u := 2) (by rfl) (w.heap.size + 1) 61 #[.slice (some ⟨bb, off, none⟩) b.length cap, .int .i64 I, .int .i64 2] (0, 0) _ (by rfl) (by exact (by repeat' (first | assumption | (refine has_drewN ?_ _) | (refine has_drew ?_) | (refine has_new _ _ _ _ ?_ <;> (first | rfl | (simp; done))) | (refine has_alloc ?_ _) | (refine has_setCell ?_ _ _ (by first | assumption | (simp; omega) | omega)) | (refine has_setRow ?_ _ _ (by first | assumption | (simp; omega) | omega)) | (refine has_belowT ?_ (by assumption))))) Try.underlying61 rfl (by kernel_rfl) (by rfl) (.int .u64 0) (by rfl) ?_
            rw [hS.out]
            exact ⟨(by repeat' (first | exact Below.refl _ _ | assumption | (refine thenB ?_ (by assumption)) | (refine belowN ?_ _) | (refine Below.alloc ?_ (by first | simp; done | (simp; omega) | omega) _) | (refine below_setRow ?_ (by first | simp; done | (simp; omega) | omega) _) | (refine Below.setCell ?_ (by first | simp; done | (simp; omega) | omega) _))), I, hI, rfl, rfl⟩
        · have e9 : ((i : Int) == 9) = false := by rw [beq_eq_false_iff_ne]; omega
          have e0 : ((c : Int) == 0) = true := by rw [beq_iff_eq]; omega
          have hi0' : (0 : Int) < i := by omega
          have hS : Hid (rNum (0, b.drop I) = (0, 2, b.drop I)) := Lib.hid (hT1.out (.inr ⟨by omega, hc0⟩))
          have H9 := Lib.hid h9; clear h9
          have H0 := Lib.hid hc0; clear hc0
          go_wp2_with fail
          go_region
          all_goals
            go_wp2_with fail
            refine ret_tmp_row (p := 3) (u := 2) (by rfl) (w.heap.size + 1) 61 #[.slice (some ⟨bb, off, none⟩) b.length cap, .int .i64 I, .int .i64 2] (0, 0) _ (by rfl) (by exact (by repeat' (first | assumption | (refine has_drewN ?_ _) | (refine has_drew ?_) | (refine has_new _ _ _ _ ?_ <;> (first | rfl | (simp; done))) | (refine has_alloc ?_ _) | (refine has_setCell ?_ _ _ (by first | assumption | (simp; omega) | omega)) | (refine has_setRow ?_ _ _ (by first | assumption | (simp; omega) | omega)) | (refine has_belowT ?_ (by assumption))))) Try.underlying61 rfl (by kernel_rfl) (by rfl) (.int .u64 0) (by rfl) ?_
            rw [hS.out]
            exact ⟨(by repeat' (first | exact Below.refl _ _ | assumption | (refine thenB ?_ (by assumption)) | (refine belowN ?_ _) | (refine Below.alloc ?_ (by first | simp; done | (simp; omega) | omega) _) | (refine below_setRow ?_ (by first | simp; done | (simp; omega) | omega) _) | (refine Below.setCell ?_ (by first | simp; done | (simp; omega) | omega) _))), I, hI, rfl, rfl⟩
        · have HB : Hid (¬((i = 9 ∧ 1 < c) ∨ (0 < i ∧ c = 0))) := Lib.hid (by omega)
          have hbit := Lib.hid (hVS.out (by omega))
          have e9 : ((i : Int) == 9) = true := by rw [beq_iff_eq]; omega
          have e0 : ((c : Int) == 0) = false := by rw [beq_eq_false_iff_ne]; omega
          have hi0 : (0 : Int) < i := by omega
          have hc1' : ¬(1 : Int) < c := by omega
          have H0 := Lib.hid hc0; clear hc0
          have H9 := Lib.hid h9; clear h9
          by_cases hc128 : c < 128
          · have hc2 : (c : Int) < 128 := by omega
            have HN1 : Hid (rNum (0, b.drop I) = (n + c % 128 * 2 ^ (7 * i), 0, b.drop (I + (i + 1)))) := Lib.hid (by rw [hT2.out HB.out hc128, List.drop_drop])
            go_wp2_with fail
            go_region
            all_goals
              go_wp2_with fail
              refine ret_tmp_row (p := 3) (u := 2) (by rfl) (w.heap.size + 1) 61 #[.slice (some ⟨bb, off, none⟩) b.length cap, .int .i64 (I + i + 1), .int .i64 0] (0, 0) _ (by rfl) (by exact (by repeat' (first | assumption | (refine has_drewN ?_ _) | (refine has_drew ?_) | (refine has_new _ _ _ _ ?_ <;> (first | rfl | (simp; done))) | (refine has_alloc ?_ _) | (refine has_setCell ?_ _ _ (by first | assumption | (simp; omega) | omega)) | (refine has_setRow ?_ _ _ (by first | assumption | (simp; omega) | omega)) | (refine has_belowT ?_ (by assumption))))) Try.underlying61 rfl (by kernel_rfl) (by rfl) (.int .u64 ((n + c % 128 * 2 ^ (7 * i) : Nat) : Int)) (congrArg (Value.int .u64) hbit.out.1) ?_
              rw [HN1.out]
              exact ⟨(by repeat' (first | exact Below.refl _ _ | assumption | (refine thenB ?_ (by assumption)) | (refine belowN ?_ _) | (refine Below.alloc ?_ (by first | simp; done | (simp; omega) | omega) _) | (refine below_setRow ?_ (by first | simp; done | (simp; omega) | omega) _) | (refine Below.setCell ?_ (by first | simp; done | (simp; omega) | omega) _))), I + (i + 1), by omega, rfl, by simp [Int.add_assoc]⟩
          · exact absurd (show c < 128 by omega) hc128
        · have HB : Hid (¬((i = 9 ∧ 1 < c) ∨ (0 < i ∧ c = 0))) := Lib.hid (by omega)
          have hbit := Lib.hid (hVS.out (by omega))
          have e9 : ((i : Int) == 9) = false := by rw [beq_eq_false_iff_ne]; omega
          have hi0' : ¬(0 : Int) < i := by omega
          have H0 := Lib.hid hi0; clear hi0
          have H9 := Lib.hid h9; clear h9
          by_cases hc128 : c < 128
          · have hc2 : (c : Int) < 128 := by omega
            have HN1 : Hid (rNum (0, b.drop I) = (n + c % 128 * 2 ^ (7 * i), 0, b.drop (I + (i + 1)))) := Lib.hid (by rw [hT2.out HB.out hc128, List.drop_drop])
            go_wp2_with fail
            go_region
            all_goals
              go_wp2_with fail
              refine ret_tmp_row (p := 3) (u := 2) (by rfl) (w.heap.size + 1) 61 #[.slice (some ⟨bb, off, none⟩) b.length cap, .int .i64 (I + i + 1), .int .i64 0] (0, 0) _ (by rfl) (by exact (by repeat' (first | assumption | (refine has_drewN ?_ _) | (refine has_drew ?_) | (refine has_new _ _ _ _ ?_ <;> (first | rfl | (simp; done))) | (refine has_alloc ?_ _) | (refine has_setCell ?_ _ _ (by first | assumption | (simp; omega) | omega)) | (refine has_setRow ?_ _ _ (by first | assumption | (simp; omega) | omega)) | (refine has_belowT ?_ (by assumption))))) Try.underlying61 rfl (by kernel_rfl) (by rfl) (.int .u64 ((n + c % 128 * 2 ^ (7 * i) : Nat) : Int)) (congrArg (Value.int .u64) hbit.out.1) ?_
              rw [HN1.out]
              exact ⟨(by repeat' (first | exact Below.refl _ _ | assumption | (refine thenB ?_ (by assumption)) | (refine belowN ?_ _) | (refine Below.alloc ?_ (by first | simp; done | (simp; omega) | omega) _) | (refine below_setRow ?_ (by first | simp; done | (simp; omega) | omega) _) | (refine Below.setCell ?_ (by first | simp; done | (simp; omega) | omega) _))), I + (i + 1), by omega, rfl, by simp [Int.add_assoc]⟩
          · have hc2 : ¬(c : Int) < 128 := by omega
            go_wp2_with fail
            go_round
            case rel => exact ⟨_, _, _, ⟨i + 1, n + c % 128 * 2 ^ (7 * i), congrArg (Value.int .u64) hbit.out.1, by go_num, by rw [← List.drop_drop]; exact hT3.out HB.out hc128, hbit.out.2, by omega, by omega⟩, rfl, rfl, rfl⟩
            case measure => simp [intOf]; omega
        · have HB : Hid (¬((i = 9 ∧ 1 < c) ∨ (0 < i ∧ c = 0))) := Lib.hid (by omega)
          have hbit := Lib.hid (hVS.out (by omega))
          have e9 : ((i : Int) == 9) = false := by rw [beq_eq_false_iff_ne]; omega
          have e0 : ((c : Int) == 0) = false := by rw [beq_eq_false_iff_ne]; omega
          have hi0' : (0 : Int) < i := by omega
          have H0 := Lib.hid hc0; clear hc0
          have H9 := Lib.hid h9; clear h9
          by_cases hc128 : c < 128
          · have hc2 : (c : Int) < 128 := by omega
            have HN1 : Hid (rNum (0, b.drop I) = (n + c % 128 * 2 ^ (7 * i), 0, b.drop (I + (i + 1)))) := Lib.hid (by rw [hT2.out HB.out hc128, List.drop_drop])
            go_wp2_with fail
            go_region
            all_goals
              go_wp2_with fail
              refine ret_tmp_row (p := 3) (u := 2) (by rfl) (w.heap.size + 1) 61 #[.slice (some ⟨bb, off, none⟩) b.length cap, .int .i64 (I + i + 1), .int .i64 0] (0, 0) _ (by rfl) (by exact (by repeat' (first | assumption | (refine has_drewN ?_ _) | (refine has_drew ?_) | (refine has_new _ _ _ _ ?_ <;> (first | rfl | (simp; done))) | (refine has_alloc ?_ _) | (refine has_setCell ?_ _ _ (by first | assumption | (simp; omega) | omega)) | (refine has_setRow ?_ _ _ (by first | assumption | (simp; omega) | omega)) | (refine has_belowT ?_ (by assumption))))) Try.underlying61 rfl (by kernel_rfl) (by rfl) (.int .u64 ((n + c % 128 * 2 ^ (7 * i) : Nat) : Int)) (congrArg (Value.int .u64) hbit.out.1) ?_
              rw [HN1.out]
              exact ⟨(by repeat' (first | exact Below.refl _ _ | assumption | (refine thenB ?_ (by assumption)) | (refine belowN ?_ _) | (refine Below.alloc ?_ (by first | simp; done | (simp; omega) | omega) _) | (refine below_setRow ?_ (by first | simp; done | (simp; omega) | omega) _) | (refine Below.setCell ?_ (by first | simp; done | (simp; omega) | omega) _))), I + (i + 1), by omega, rfl, by simp [Int.add_assoc]⟩
          · have hc2 : ¬(c : Int) < 128 := by omega
            go_wp2_with fail
            go_round
            case rel => exact ⟨i + 1, n + c % 128 * 2 ^ (7 * i), by rw [hbit.out.1], by go_num, hT3.out HB.out hc128, hbit.out.2, by have := H9.out; omega, by omega⟩
            case measure => simp [intOf]; omega
  · have hbo : ((E : Int) != 0) = true := by rw [bne_iff_ne]; omega
    have hS : Hid (rNum (E, b.drop I) = (0, E, b.drop I)) := Lib.hid (rNum_stuck (r := (E, b.drop I)) he)
    have HE := Lib.hid he; clear he
    go_enter Try.func24, Try.ntmps24
    go_wp2_with fail
    go_region
    all_goals
      go_wp2_with fail
      refine ret_tmp_row (p := 3) (u := 2) (by rfl) (w.heap.size + 1) 61 #[.slice a b.length cap, .int .i64 I, .int .i64 E] (0, 0) _ (by rfl) (by exact (by repeat' (first | assumption | (refine has_drewN ?_ _) | (refine has_drew ?_) | (refine has_new _ _ _ _ ?_ <;> (first | rfl | (simp; done))) | (refine has_alloc ?_ _) | (refine has_setCell ?_ _ _ (by first | assumption | (simp; omega) | omega)) | (refine has_setRow ?_ _ _ (by first | assumption | (simp; omega) | omega)) | (refine has_belowT ?_ (by assumption))))) Try.underlying61 rfl (by kernel_rfl) (by rfl) (.int .u64 0) (by rfl) ?_
      rw [hS.out]
      exact ⟨(by repeat' (first | exact Below.refl _ _ | assumption | (refine thenB ?_ (by assumption)) | (refine belowN ?_ _) | (refine Below.alloc ?_ (by first | simp; done | (simp; omega) | omega) _) | (refine below_setRow ?_ (by first | simp; done | (simp; omega) | omega) _) | (refine Below.setCell ?_ (by first | simp; done | (simp; omega) | omega) _))), I, hI, rfl, rfl⟩
end Go.Proofs.Ytcmpcbpdnaodmaa
