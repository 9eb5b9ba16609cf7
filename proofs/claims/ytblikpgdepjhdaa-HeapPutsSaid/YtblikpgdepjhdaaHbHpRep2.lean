/- Parts of the proof. -/
import Derived.Deep.RegionLaw
import Derived.Test.YtblikpgdepjhdaaHbHpRepeat
namespace Go.Proofs.Ytblikpgdepjhdaa
open Go.RowKit
set_option linter.unusedVariables false
def repRow (x : GApiValue) (n k : Nat) : List GApiValue := List.replicate k x ++ List.replicate (n - k) ⟨0, 0, 0, 0⟩
theorem made_zero (n : Nat) : (madeCells (Value.agg #[.int .u8 0, .int .i64 0, .int .i64 0, .int .i64 0]).cells (n * 4)) = (vrow (List.replicate n ⟨0, 0, 0, 0⟩)).toArray := by
  apply Array.ext
  · rw [size_madeCells]; simp [vrow_len]
  · intro i h1 h2
    rw [size_madeCells] at h1
    have hm : i % 4 < 4 := by omega
    have hq : i / 4 < (List.replicate n (⟨0, 0, 0, 0⟩ : GApiValue)).length := by simp; omega
    have e := flat4 vcells 4 (fun x => rfl) (List.replicate n ⟨0, 0, 0, 0⟩) (i / 4) (i % 4) hq hm
    rw [show i / 4 * 4 + i % 4 = i by omega] at e
    have e2 : (vrow (List.replicate n ⟨0, 0, 0, 0⟩)).toArray[i]'h2 = (vrow (List.replicate n ⟨0, 0, 0, 0⟩))[i]'(by simpa using h2) := rfl
    rw [e2]
    have e3 := List.getElem?_eq_getElem (l := vrow (List.replicate n ⟨0, 0, 0, 0⟩)) (i := i) (by simpa using h2)
    have e4 : (vrow (List.replicate n ⟨0, 0, 0, 0⟩))[i]? = (vcells ⟨0, 0, 0, 0⟩)[i % 4]? := by
      rw [show vrow (List.replicate n ⟨0, 0, 0, 0⟩) = (List.replicate n ⟨0, 0, 0, 0⟩).flatMap vcells from rfl, e]
      simp
    rw [e4] at e3
    simp only [madeCells, Value.cells, Array.getElem_map, Array.getElem_range]
    have h5 : i % 4 = 0 ∨ i % 4 = 1 ∨ i % 4 = 2 ∨ i % 4 = 3 := by omega
    have e6 : i % #[Value.int .u8 0, Value.int .i64 0, Value.int .i64 0, Value.int .i64 0].size = i % 4 := rfl
    rw [e6]
    rcases h5 with h | h | h | h <;> rw [h] at e3 ⊢ <;> simpa [vcells] using e3
theorem make_val (n : Nat) (h : n ≤ 65536) (w : World) : Sem.run Try.prog (Instr.makeSlice 25 (.int .i64 n) (.int .i64 n)) w = .ok (.slice (some ⟨w.heap.size, 0, none⟩) n n) (w.alloc (.cells (vrow (List.replicate n ⟨0, 0, 0, 0⟩)).toArray 46)) := by
  obtain ⟨i0, hi, hz0, hz1, hz2⟩ := valueinfo
  have := run_make (P := Try.prog) w 25 46 i0 (.agg #[.int .u8 0, .int .i64 0, .int .i64 0, .int .i64 0]) (by kernel_rfl) hi hz0 .i64 .i64 n n (by omega) (by omega) (by rw [hz2]; omega) (by omega)
  rw [this, hz1, Int.toNat_natCast, made_zero]
theorem vrow_app (a b : List GApiValue) : vrow (a ++ b) = vrow a ++ vrow b := List.flatMap_append
theorem repRow_step (x : GApiValue) (n k m : Nat) (h : k + m ≤ n) : ((vrow (repRow x n k)).take (k * 4) ++ vrow (List.replicate m x) ++ (vrow (repRow x n k)).drop (k * 4 + (vrow (List.replicate m x)).length)) = vrow (repRow x n (k + m)) := by
  have e1 : vrow (repRow x n k) = vrow (List.replicate k x) ++ vrow (List.replicate (n - k) ⟨0, 0, 0, 0⟩) := vrow_app _ _
  have l1 : (vrow (List.replicate k x)).length = k * 4 := by simp [vrow_len]
  have l2 : (vrow (List.replicate m x)).length = m * 4 := by simp [vrow_len]
  have e2 : vrow (List.replicate (n - k) (⟨0, 0, 0, 0⟩ : GApiValue)) = vrow (List.replicate m ⟨0, 0, 0, 0⟩) ++ vrow (List.replicate (n - (k + m)) ⟨0, 0, 0, 0⟩) := by
    rw [← vrow_app, List.replicate_append_replicate, show m + (n - (k + m)) = n - k by omega]
  rw [e1, List.take_left' l1, ← List.drop_drop, List.drop_left' l1, e2, l2, List.drop_left' (by simp [vrow_len])]
  unfold repRow
  rw [vrow_app, ← vrow_app (List.replicate k x), List.replicate_append_replicate]
theorem repRow_cells (x : GApiValue) (n k : Nat) {w : World} {g m : Nat} (h : Has w g (vrow (repRow x n k)).toArray 46) (hm : m ≤ k) : ∀ j v, (vrow (List.replicate m x))[j]? = some v → w.cell? ((⟨g, 0, none⟩ : Addr).add j) = some v := by
  intro j v hj
  have hadd : (⟨g, 0, none⟩ : Addr).add j = ⟨g, j, none⟩ := by unfold Addr.add; split <;> simp_all
  have hlt : j < (vrow (List.replicate m x)).length := (List.getElem?_eq_some_iff.1 hj).1
  rw [hadd, has_cell h]
  have e1 : vrow (repRow x n k) = vrow (List.replicate m x) ++ (vrow (List.replicate (k - m) x) ++ vrow (List.replicate (n - k) ⟨0, 0, 0, 0⟩)) := by
    rw [← List.append_assoc, ← vrow_app, List.replicate_append_replicate, show m + (k - m) = k by omega, ← vrow_app]; rfl
  rw [e1]
  simp only [List.getElem?_toArray]
  rw [List.getElem?_append_left hlt]
  exact hj
theorem copy_first (x : GApiValue) (g0 n : Nat) {w1 : World} (hx : Has w1 g0 (vcells x).toArray 46) : Sem.run Try.prog (Builtin.copy_ #[25, 25] 3 #[.slice (some ⟨w1.heap.size, 0, none⟩) n n, .slice (some ⟨g0, 0, none⟩) 1 1]) (w1.alloc (.cells (vrow (List.replicate n ⟨0, 0, 0, 0⟩)).toArray 46)) =
    .ok (.int .i64 ((Nat.min 1 n : Nat) : Int)) ((w1.alloc (.cells (vrow (List.replicate n ⟨0, 0, 0, 0⟩)).toArray 46)).setRow w1.heap.size (vrow (repRow x n (Nat.min 1 n))).toArray) := by
  have hm : Nat.min 1 n ≤ n := Nat.min_le_right 1 n
  have HC : (vrow (List.replicate (Nat.min 1 n) x)).length = Nat.min 1 n * 4 := by simp [vrow_len]
  have hR0 : repRow x n 0 = List.replicate n ⟨0, 0, 0, 0⟩ := by simp [repRow]
  have := run_copy_rowN (P := Try.prog) (w1.alloc (.cells (vrow (List.replicate n ⟨0, 0, 0, 0⟩)).toArray 46)) 25 25 3 46 w1.heap.size 0 n n 4 ⟨g0, 0, none⟩ 1 1 _ _ (vrow (List.replicate (Nat.min 1 n) x)) (by kernel_rfl) (by kernel_rfl) (row_alloc_new w1 _ _ rfl) HC (repRow_cells x 1 1 (has_alloc (show Has w1 g0 (vrow (repRow x 1 1)).toArray _ from hx) _) (Nat.min_le_left 1 n)) (by rw [HC]; simp [vrow_len]; omega) (vrow_one _)
  rw [this]
  have E1 := repRow_step x n 0 (Nat.min 1 n) (by omega)
  simp only [Nat.zero_mul, hR0, Nat.zero_add] at E1
  simp only [Nat.zero_add]
  rw [E1]
  rfl
set_option maxHeartbeats 8000000 in
set_option maxRecDepth 100000 in
theorem repeat_vals {w : World} (x : GApiValue) (g0 n : Nat) (hx : Has w g0 (vcells x).toArray 46) (hn : n ≤ 65536) :
    Calls Try.prog 45 #[.slice (some ⟨g0, 0, none⟩) 1 1, .int .i64 n] w fun e w' => ∃ v' g, e = .returned v' ∧ Below w.heap.size w w' ∧ valsAt w' v' (List.replicate n x) g ∧ ∀ k, g = some k → w.heap.size ≤ k := by
  have wu : IntKind.u64.wrap (n : Int) = n := by rw [IntKind.wrap_u64]; omega
  have wi : IntKind.i64.wrap (n : Int) = n := by rw [IntKind.wrap_i64]; omega
  have wu1 : IntKind.u64.wrap (1 : Int) = 1 := by decide
  have hmk := make_val n hn
  have hnn : (0 : Int) ≤ n := by omega
  have hbig : ¬ (9223372036854775807 : Int) < n := by omega
  have HN := Lib.hid hn
  have HX := Lib.hid hx
  have hR0 : Hid (repRow x n 0 = List.replicate n ⟨0, 0, 0, 0⟩) := by simp [repRow, Hid]
  have HC : Hid ((vrow (List.replicate (Nat.min 1 n) x)).length = Nat.min 1 n * 4) := Lib.hid (by simp [vrow_len])
  clear hx hn
  go_enter Try.func45, Try.ntmps45
  go_wp2_with (go_at_call 51; go_must (refine (mul_raw n HN.out _).mono ?_; rintro e w1 ⟨rfl, hb1⟩; have hcp := copy_first x g0 n (has_belowT HX.out hb1)))
  have YB : Below w.heap.size w ((w1.alloc (.cells (vrow (List.replicate n ⟨0, 0, 0, 0⟩)).toArray 46)).setRow w1.heap.size (vrow (repRow x n (Nat.min 1 n))).toArray) := below_setRow ((hb1).alloc hb1.size _) hb1.size _
  have YH : Has ((w1.alloc (.cells (vrow (List.replicate n ⟨0, 0, 0, 0⟩)).toArray 46)).setRow w1.heap.size (vrow (repRow x n (Nat.min 1 n))).toArray) w1.heap.size (vrow (repRow x n (Nat.min 1 n))).toArray 46 := setRow_heap _ _ _ _ _ _ (row_alloc_new w1 _ _ rfl)
  generalize World.setRow _ _ _ = w2 at YB YH ⊢
  have hm0 : Nat.min 1 n ≤ n := Nat.min_le_right 1 n
  have hm1 : Nat.min 1 n = n ∨ 1 ≤ Nat.min 1 n := by
    have : Nat.min 1 n = if 1 ≤ n then 1 else n := rfl
    rw [this]; split <;> omega
  generalize Nat.min 1 n = m0 at YB YH hm0 hm1 ⊢
  replace hb1 := Lib.hid hb1
  clear hcp hmk
  go_loopw [8] (fun q wr => ∃ k : Nat, q = .int .i64 k ∧ k ≤ n ∧ (k = n ∨ 1 ≤ k) ∧ Has wr w1.heap.size (vrow (repRow x n k)).toArray 46 ∧ Below w.heap.size w wr) (fun q _ => n - (intOf q).toNat)
  case atStart => exact ⟨m0, rfl, hm0, hm1, YH, YB⟩
  case round =>
    obtain ⟨k, rfl, hk, h1, hh, hb⟩ := hrel
    by_cases hkn : k = n
    · subst hkn
      have HH := Lib.hid hh
      clear hh YB YH
      go_wp2_with fail
      go_ret
      have hcl : (vrow (repRow x k k)) = vrow (List.replicate k x) := by simp [repRow]
      by_cases h0 : k = 0
      · subst h0
        exact ⟨_, rfl, hb, none, ⟨rfl, _, 0, by simp [maxLen], rfl⟩, fun k hk => by cases hk⟩
      · refine ⟨_, rfl, hb, some w1.heap.size, ⟨⟨by rw [vrow_len], .inr ⟨w1.heap.size, k, _, by simp, Nat.zero_le _, HH.out, by simp, by have := HN.out; simp only [maxLen]; omega, by rw [hcl]; simp [vrow_len], by rw [hcl, List.toList_toArray, List.length_replicate]; exact List.take_of_length_le (by simp [vrow_len])⟩⟩, rfl⟩, fun k hk => by cases hk; exact hb1.out.size⟩
    · have hlt : k < n := by omega
      have ht : (k : Int) < n := by omega
      have HH := Lib.hid hh
      have HB := Lib.hid hb
      have H1 := Lib.hid h1
      clear hh YB YH hb h1
      have hk0 : (0 : Int) ≤ k := by omega
      have wk : IntKind.i64.wrap (k : Int) = k := by have := HN.out; rw [IntKind.wrap_i64]; omega
      have hkn' : ¬ n < k := by omega
      have hnk : ¬ n = k := by omega
      have hnk0 : ¬ n - k = 0 := by omega
      have hsub : ((n : Int) - k).toNat = n - k := by omega
      have HM : Hid (Nat.min k (n - k) ≤ n - k) := Nat.min_le_right _ _
      have HL : Hid ((vrow (List.replicate (Nat.min k (n - k)) x)).length = Nat.min k (n - k) * 4) := Lib.hid (by simp [vrow_len])
      have HC : Hid (∀ j v, (vrow (List.replicate (Nat.min k (n - k)) x))[j]? = some v → wr.cell? ((⟨w1.heap.size, 0, none⟩ : Addr).add j) = some v) := repRow_cells x n k HH.out (Nat.min_le_left _ _)
      go_wp2_with fail
      go_region_law (refine step_copyN rfl _ _ 25 25 rfl 46 4 (by kernel_rfl) (by kernel_rfl) w1.heap.size (k * 4) (n - k) (n - k) ⟨w1.heap.size, 0, none⟩ k n (by simp [Act.eval, Act.put]) (by simp [Act.eval, Act.put]) _ 46 HH.out _ HL.out HC.out (by rw [HL.out]; have := HM.out; have := HN.out; simp [vrow_len, repRow]; omega) (vrow_one _) ?_; intro w3 hw3)
      go_simp
      have hm := HM.out
      have hn' := HN.out
      have hmk : 1 ≤ Nat.min k (n - k) ∨ k = 0 := by
        have : Nat.min k (n - k) = if k ≤ n - k then k else n - k := rfl
        rw [this]; split <;> omega
      have h1' := H1.out
      have E1 := repRow_step x n k (Nat.min k (n - k)) (by omega)
      have Z := hw3.out
      dsimp only at Z
      rw [E1] at Z
      have wkm : IntKind.i64.wrap ((k : Int) + ((Nat.min k (n - k) : Nat) : Int)) = ((k + Nat.min k (n - k) : Nat) : Int) := by rw [IntKind.wrap_i64]; omega
      have Y3 : Has w3 w1.heap.size (vrow (repRow x n (k + Nat.min k (n - k)))).toArray 46 := by rw [Z]; exact setRow_heap _ _ _ _ _ _ (has_drew HH.out)
      have B3 : Below w.heap.size w w3 := by rw [Z]; exact below_setRow (belowN HB.out 1) hb1.out.size _
      rw [wkm]
      go_roundw
      case rel => exact ⟨_, _, _, _, _, _, _, _, _, _, _, _, _, _, ⟨k + Nat.min k (n - k), rfl, by omega, by omega, Y3, B3⟩, rfl⟩
      case measure =>
        show n - (intOf (.int .i64 ((k + Nat.min k (n - k) : Nat) : Int))).toNat < n - (intOf (.int .i64 (k : Int))).toNat
        simp only [intOf, Int.toNat_natCast]; omega
end Go.Proofs.Ytblikpgdepjhdaa
