/- A nil heap: the walks. -/
import Derived.Test.YtblikpgdepjhdaaHpAll
import Derived.Test.YtblikpgdepjhdaaLfRel
namespace Go.Proofs.Ytblikpgdepjhdaa
open Go.RowKit
set_option linter.unusedVariables false

theorem vals1 {vals : Array Value} {a : Value} (hs : vals.size = 1) (h0 : vals.getD 0 undef = a) : vals = #[a] := by
  apply Array.ext
  · simpa using hs
  · intro i h1 h2
    match i, h2 with
    | 0, _ => simpa [Array.getD, hs] using h0
theorem vals2 {vals : Array Value} {a b : Value} (hs : vals.size = 2) (h0 : vals.getD 0 undef = a) (h1 : vals.getD 1 undef = b) : vals = #[a, b] := by
  apply Array.ext
  · simpa using hs
  · intro i j1 j2
    match i, j2 with
    | 0, _ => simpa [Array.getD, hs] using h0
    | 1, _ => simpa [Array.getD, hs] using h1
theorem vals3 {vals : Array Value} {a b c : Value} (hs : vals.size = 3) (h0 : vals.getD 0 undef = a) (h1 : vals.getD 1 undef = b) (h2 : vals.getD 2 undef = c) : vals = #[a, b, c] := by
  apply Array.ext
  · simpa using hs
  · intro i h3 h4
    match i, h4 with
    | 0, _ => simpa [Array.getD, hs] using h0
    | 1, _ => simpa [Array.getD, hs] using h1
    | 2, _ => simpa [Array.getD, hs] using h2
theorem vals4 {vals : Array Value} {a b c d : Value} (hs : vals.size = 4) (h0 : vals.getD 0 undef = a) (h1 : vals.getD 1 undef = b) (h2 : vals.getD 2 undef = c) (h3 : vals.getD 3 undef = d) : vals = #[a, b, c, d] := by
  apply Array.ext
  · simpa using hs
  · intro i h5 h6
    match i, h6 with
    | 0, _ => simpa [Array.getD, hs] using h0
    | 1, _ => simpa [Array.getD, hs] using h1
    | 2, _ => simpa [Array.getD, hs] using h2
    | 3, _ => simpa [Array.getD, hs] using h3
theorem repF_value {w : World} {M : Nat → Prop} {x : GApiValue} {v : Value} (h : RepF w M (e_GApiValue x) v) : v = .agg #[.int .u8 x.Kind, .int .i64 x.N, .int .i64 x.Re, .int .i64 x.Im] := by
  unfold e_GApiValue at h
  cases h with
  | agg cs vs hs h1 hr =>
    congr 1
    apply Array.ext
    · simpa using hs
    · intro i h3 h4
      match i, h4 with
      | 0, _ => exact rep_val (hr 0 (by simp))
      | 1, _ => exact rep_val (hr 1 (by simp))
      | 2, _ => exact rep_val (hr 2 (by simp))
      | 3, _ => exact rep_val (hr 3 (by simp))
theorem repF_value_mk (w : World) (M : Nat → Prop) (x : GApiValue) : RepF w M (e_GApiValue x) (.agg #[.int .u8 x.Kind, .int .i64 x.N, .int .i64 x.Re, .int .i64 x.Im]) := by
  unfold e_GApiValue
  refine .agg _ _ rfl (fun i hi => ?_) (fun i hi => ?_)
  · match i, hi with
    | 0, _ => rfl
    | 1, _ => rfl
    | 2, _ => rfl
    | 3, _ => rfl
  · match i, hi with
    | 0, _ => exact .t _ _ (.v _ rfl)
    | 1, _ => exact .t _ _ (.v _ rfl)
    | 2, _ => exact .t _ _ (.v _ rfl)
    | 3, _ => exact .t _ _ (.v _ rfl)
theorem repF_tup2 {w : World} {M : Nat → Prop} {a b : A} {x y : Value} (h1 : RepF w M a x) (h2 : RepF w M b y) : RepF w M (.tup [a, b]) (.tuple #[x, y]) := by
  refine .tup _ _ rfl (fun i hi => ?_)
  match i, hi with
  | 0, _ => exact h1
  | 1, _ => exact h2
theorem repF_v (w : World) (M : Nat → Prop) (x : Value) (h : x.oneCell' = true) : RepF w M (.t (.v x)) x := .t _ _ (.v _ h)
set_option maxHeartbeats 8000000 in set_option maxRecDepth 100000 in
theorem nil_at (kd n re im : Int) (w : World) : Calls Try.prog 44 #[.pointer none, .agg #[.int .u8 kd, .int .i64 n, .int .i64 re, .int .i64 im]] w fun e w' => e = .returned (.pointer none) ∧ Below w.heap.size w w' := by
  go_enter Try.func44, Try.ntmps44
  go_wp2_with fail
  go_quiet (fail)
  go_wp2_with fail
  go_ret
  exact ⟨rfl, (by repeat' (first | exact Below.refl _ _ | assumption | (refine thenB ?_ (by assumption)) | (refine belowN ?_ _) | (refine Below.alloc ?_ (by first | simp; done | (simp; omega) | omega) _) | (refine below_setRow ?_ (by first | simp; done | (simp; omega) | omega) _) | (refine Below.setCell ?_ (by first | simp; done | (simp; omega) | omega) _)))⟩
set_option maxHeartbeats 8000000 in set_option maxRecDepth 100000 in
theorem nil_Text (kd n re im : Int) (w : World) : Calls Try.prog 25 #[.pointer none, .agg #[.int .u8 kd, .int .i64 n, .int .i64 re, .int .i64 im]] w fun e w' => e = .returned (.tuple #[.string (mkS []), .bool false]) ∧ Below w.heap.size w w' := by
  go_enter Try.func25, Try.ntmps25
  go_wp2_with (go_at_call 44; go_must (refine (nil_at kd n re im _).mono ?_; rintro e w1 ⟨rfl, hb⟩; have N1 := has_belowT (has_new w w.heap.size _ _ rfl) hb; have nc1 := has_cell N1; have nf1 := has_free N1; have ns1 := has_lt N1))
  go_ret2
  exact ⟨rfl, (by repeat' (first | exact Below.refl _ _ | assumption | (refine thenB ?_ (by assumption)) | (refine belowN ?_ _) | (refine Below.alloc ?_ (by first | simp; done | (simp; omega) | omega) _) | (refine below_setRow ?_ (by first | simp; done | (simp; omega) | omega) _) | (refine Below.setCell ?_ (by first | simp; done | (simp; omega) | omega) _)))⟩
set_option maxHeartbeats 8000000 in set_option maxRecDepth 100000 in
theorem nil_Size (kd n re im : Int) (w : World) : Calls Try.prog 26 #[.pointer none, .agg #[.int .u8 kd, .int .i64 n, .int .i64 re, .int .i64 im]] w fun e w' => e = .returned (.tuple #[.int .i64 0, .int .u8 3]) ∧ Below w.heap.size w w' := by
  go_enter Try.func26, Try.ntmps26
  go_wp2_with (go_at_call 44; go_must (refine (nil_at kd n re im _).mono ?_; rintro e w1 ⟨rfl, hb⟩; have N1 := has_belowT (has_new w w.heap.size _ _ rfl) hb; have nc1 := has_cell N1; have nf1 := has_free N1; have ns1 := has_lt N1))
  go_ret2
  exact ⟨rfl, (by repeat' (first | exact Below.refl _ _ | assumption | (refine thenB ?_ (by assumption)) | (refine belowN ?_ _) | (refine Below.alloc ?_ (by first | simp; done | (simp; omega) | omega) _) | (refine below_setRow ?_ (by first | simp; done | (simp; omega) | omega) _) | (refine Below.setCell ?_ (by first | simp; done | (simp; omega) | omega) _)))⟩
set_option maxHeartbeats 8000000 in set_option maxRecDepth 100000 in
theorem nil_Of (kd n re im : Int) (w : World) : Calls Try.prog 43 #[.pointer none, .agg #[.int .u8 kd, .int .i64 n, .int .i64 re, .int .i64 im]] w fun e w' => e = .returned (.int .i64 0) ∧ Below w.heap.size w w' := by
  go_enter Try.func43, Try.ntmps43
  go_wp2_with (go_at_call 44; go_must (refine (nil_at kd n re im _).mono ?_; rintro e w1 ⟨rfl, hb⟩; have N1 := has_belowT (has_new w w.heap.size _ _ rfl) hb; have nc1 := has_cell N1; have nf1 := has_free N1; have ns1 := has_lt N1))
  go_ret
  exact ⟨rfl, (by repeat' (first | exact Below.refl _ _ | assumption | (refine thenB ?_ (by assumption)) | (refine belowN ?_ _) | (refine Below.alloc ?_ (by first | simp; done | (simp; omega) | omega) _) | (refine below_setRow ?_ (by first | simp; done | (simp; omega) | omega) _) | (refine Below.setCell ?_ (by first | simp; done | (simp; omega) | omega) _)))⟩
set_option maxHeartbeats 8000000 in set_option maxRecDepth 100000 in
theorem nil_Cells (w : World) : Calls Try.prog 13 #[.pointer none] w fun e w' => e = .returned (.int .i64 0) ∧ Below w.heap.size w w' := by
  go_enter Try.func13, Try.ntmps13
  go_wp2_with fail
  go_ret
  exact ⟨rfl, Below.refl _ _⟩
set_option maxHeartbeats 8000000 in set_option maxRecDepth 100000 in
theorem nil_All (w : World) : Calls Try.prog 14 #[.pointer none] w fun e w' => e = .returned (.slice none 0 0) ∧ Below w.heap.size w w' := by
  go_enter Try.func14, Try.ntmps14
  go_wp2_with fail
  go_ret
  exact ⟨rfl, Below.refl _ _⟩
set_option maxHeartbeats 8000000 in set_option maxRecDepth 100000 in
theorem nil_Copy (w : World) : Calls Try.prog 27 #[.pointer none] w fun e w' => e = .returned (.pointer none) ∧ Below w.heap.size w w' := by
  go_enter Try.func27, Try.ntmps27
  go_wp2_with fail
  go_ret
  exact ⟨rfl, Below.refl _ _⟩
set_option maxHeartbeats 8000000 in set_option maxRecDepth 100000 in
theorem nil_Get (kd n re im i : Int) (w : World) : Calls Try.prog 20 #[.pointer none, .agg #[.int .u8 kd, .int .i64 n, .int .i64 re, .int .i64 im], .int .i64 i] w fun e w' => e = .returned (.tuple #[.agg #[.int .u8 0, .int .i64 0, .int .i64 0, .int .i64 0], .int .u8 3]) ∧ Below w.heap.size w w' := by
  go_enter Try.func20, Try.ntmps20
  go_wp2_with (go_at_call 26; go_must (refine (nil_Size kd n re im _).mono ?_; rintro e w1 ⟨rfl, hb⟩; have N1 := has_belowT (has_new (w.alloc _) _ _ _ rfl) hb; have nc1 := has_cell N1; have nf1 := has_free N1; have ns1 := has_lt N1; simp only [World.size_alloc] at N1 nc1 nf1 ns1))
  have N2 := has_set_same (has_set_same (has_set_same (has_set_same N1 0 (.int .u8 0)) 1 (.int .i64 0)) 2 (.int .i64 0)) 3 (.int .i64 0)
  refine ret_row_tmp (p := 6) (u := 7) (by rfl) (w.heap.size + 1) 46 _ (0, 0) _ (by rfl) N2 Try.underlying46 rfl (by kernel_rfl) (by rfl) (.int .u8 3) (by rfl) ?_
  exact ⟨rfl, (by repeat' (first | exact Below.refl _ _ | assumption | (refine thenB ?_ (by assumption)) | (refine belowN ?_ _) | (refine Below.alloc ?_ (by first | simp; done | (simp; omega) | omega) _) | (refine below_setRow ?_ (by first | simp; done | (simp; omega) | omega) _) | (refine Below.setCell ?_ (by first | simp; done | (simp; omega) | omega) _)))⟩
set_option maxHeartbeats 8000000 in set_option maxRecDepth 100000 in
theorem nil_Put (kd n re im i : Int) (x : GApiValue) (w : World) : Calls Try.prog 19 #[.pointer none, .agg #[.int .u8 kd, .int .i64 n, .int .i64 re, .int .i64 im], .int .i64 i, .agg #[.int .u8 x.Kind, .int .i64 x.N, .int .i64 x.Re, .int .i64 x.Im]] w fun e w' => e = .returned (.int .u8 3) ∧ Below w.heap.size w w' := by
  go_enter Try.func19, Try.ntmps19
  go_wp2_with (go_at_call 44; go_must (refine (nil_at kd n re im _).mono ?_; rintro e w1 ⟨rfl, hb⟩; have N1 := has_belowT (has_alloc (has_new w w.heap.size _ _ rfl) _) hb; have nc1 := has_cell N1; have nf1 := has_free N1; have ns1 := has_lt N1))
  go_ret
  exact ⟨rfl, (by repeat' (first | exact Below.refl _ _ | assumption | (refine thenB ?_ (by assumption)) | (refine belowN ?_ _) | (refine Below.alloc ?_ (by first | simp; done | (simp; omega) | omega) _) | (refine below_setRow ?_ (by first | simp; done | (simp; omega) | omega) _) | (refine Below.setCell ?_ (by first | simp; done | (simp; omega) | omega) _)))⟩
set_option maxHeartbeats 8000000 in set_option maxRecDepth 100000 in
theorem nil_Str (s : List UInt8) (w : World) : Calls Try.prog 22 #[.pointer none, .string (mkS s)] w fun e w' => e = .returned (.tuple #[.agg #[.int .u8 0, .int .i64 0, .int .i64 0, .int .i64 0], .bool false]) ∧ Below w.heap.size w w' := by
  go_enter Try.func22, Try.ntmps22
  go_wp2_with fail
  refine ret_row_tmp (p := 4) (u := 5) (by rfl) w.heap.size 46 _ (0, 0) _ (by rfl) (has_new w w.heap.size _ _ rfl) Try.underlying46 rfl (by kernel_rfl) (by rfl) (.bool false) (by rfl) ?_
  exact ⟨rfl, (by repeat' (first | exact Below.refl _ _ | assumption | (refine thenB ?_ (by assumption)) | (refine belowN ?_ _) | (refine Below.alloc ?_ (by first | simp; done | (simp; omega) | omega) _) | (refine below_setRow ?_ (by first | simp; done | (simp; omega) | omega) _) | (refine Below.setCell ?_ (by first | simp; done | (simp; omega) | omega) _)))⟩
set_option maxHeartbeats 8000000 in set_option maxRecDepth 100000 in
theorem nil_Rec (of_ : Int) (v : Value) (w : World) : Calls Try.prog 24 #[.pointer none, .int .i64 of_, v] w fun e w' => e = .returned (.tuple #[.agg #[.int .u8 0, .int .i64 0, .int .i64 0, .int .i64 0], .bool false]) ∧ Below w.heap.size w w' := by
  go_enter Try.func24, Try.ntmps24
  go_wp2_with fail
  refine ret_row_tmp (p := 6) (u := 7) (by rfl) w.heap.size 46 _ (0, 0) _ (by rfl) (has_new w w.heap.size _ _ rfl) Try.underlying46 rfl (by kernel_rfl) (by rfl) (.bool false) (by rfl) ?_
  exact ⟨rfl, (by repeat' (first | exact Below.refl _ _ | assumption | (refine thenB ?_ (by assumption)) | (refine belowN ?_ _) | (refine Below.alloc ?_ (by first | simp; done | (simp; omega) | omega) _) | (refine below_setRow ?_ (by first | simp; done | (simp; omega) | omega) _) | (refine Below.setCell ?_ (by first | simp; done | (simp; omega) | omega) _)))⟩
set_option maxHeartbeats 8000000 in set_option maxRecDepth 100000 in
theorem nil_List (of_ n : Int) (x : GApiValue) (w : World) : Calls Try.prog 23 #[.pointer none, .int .i64 of_, .int .i64 n, .agg #[.int .u8 x.Kind, .int .i64 x.N, .int .i64 x.Re, .int .i64 x.Im]] w fun e w' => e = .returned (.tuple #[.agg #[.int .u8 0, .int .i64 0, .int .i64 0, .int .i64 0], .bool false]) ∧ Below w.heap.size w w' := by
  go_enter Try.func23, Try.ntmps23
  go_wp2_with fail
  go_quiet (fail)
  go_wp2_with fail
  have N2 : Has (((w.alloc (.cells #[.int .u8 x.Kind, .int .i64 x.N, .int .i64 x.Re, .int .i64 x.Im] 46)).alloc (.cells #[.int .u8 0, .int .i64 0, .int .i64 0, .int .i64 0] 46)).drewN nq) (w.heap.size + 1) #[.int .u8 0, .int .i64 0, .int .i64 0, .int .i64 0] 46 := has_drewN (has_new (w.alloc _) (w.heap.size + 1) _ _ (by simp)) nq
  refine ret_row_tmp (p := 8) (u := 9) (by rfl) (w.heap.size + 1) 46 _ (0, 0) _ (by rfl) N2 Try.underlying46 rfl (by kernel_rfl) (by rfl) (.bool false) (by rfl) ?_
  exact ⟨rfl, (by repeat' (first | exact Below.refl _ _ | assumption | (refine thenB ?_ (by assumption)) | (refine belowN ?_ _) | (refine Below.alloc ?_ (by first | simp; done | (simp; omega) | omega) _) | (refine below_setRow ?_ (by first | simp; done | (simp; omega) | omega) _) | (refine Below.setCell ?_ (by first | simp; done | (simp; omega) | omega) _)))⟩
end Go.Proofs.Ytblikpgdepjhdaa
