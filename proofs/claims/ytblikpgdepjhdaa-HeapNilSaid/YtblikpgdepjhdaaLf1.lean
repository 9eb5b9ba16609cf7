/- Functions of the program, lifted. -/
import Derived.Test.YtblikpgdepjhdaaHpCopyIO
import Derived.Test.YtblikpgdepjhdaaHpCopyIO
namespace Go.Proofs.Ytblikpgdepjhdaa
open Go.RowKit
set_option linter.unusedVariables false
set_option maxHeartbeats 4000000
def R_hindcastlaw11_awake  (r : Bool) : Prop := FnP Try.prog 10 [] (aB r)
noncomputable def hindcastlaw11_awake  : Option Bool :=
  ((xheap_New 3).bind fun (r1_0 : ((Option GHeapHeap) × Int)) => optCase r1_0.1 (some false) fun (y1_0 : GHeapHeap) => (if r1_0.2 = 0 then ((xheap_Heap_Str y1_0 ([110, 105, 110, 101, 98, 121, 116, 101, 115] : List UInt8)).bind fun (r4_1 : (GApiValue × Bool × GHeapHeap)) => ((xheap_Heap_List r4_1.2.2 1 0 (GApiValue.mk 1 0 0 0)).bind fun (r5_2 : (GApiValue × Bool × GHeapHeap)) => ((xheap_Heap_Size r5_2.2.2 r4_1.1).bind fun (r6_2 : (Int × Int)) => (if r4_1.2.1 = true then (if r5_2.2.1 = true then (some false) else (if r6_2.1 = 9 then (if r6_2.2 = 0 then ((xheap_Heap_Cells r5_2.2.2).bind fun (r7_15 : Int) => (some (decide (r7_15 = 3)))) else (some false)) else (some false))) else (some false))))) else (some false)))
set_option maxRecDepth 100000 in
theorem hindcastlaw11_awake_ok  {r_ : Bool} (h : hindcastlaw11_awake  = some r_) : R_hindcastlaw11_awake  r_ := by
  unfold hindcastlaw11_awake at h
  refine fn_pureX (fn := Try.f10) (by kernel_rfl) (c := subC (bodyC Try.prog 10) []) (by kernel_rfl) (by kernel_rfl) (Nat.le_of_ble_eq_true (by kernel_rfl)) ?_
  generalize hQ' : retQ Try.prog Try.f10 (aB r_) = Q'
  have kr : ∀ (ns : List (Nat × Nat × Nat)) (s : LS) (x : Bool), retX Try.prog ns [.tmp 0] s = some (aB x) → x = r_ → Q' .ret s.st := by subst hQ'; intro ns s x hx hq; subst hq; exact ret_ok (fn := Try.f10) ns hx
  change W Try.prog _ (LS.mk 54 [] []).st Q'
  refine W_seq ?_
  refine W_y (s' := LS.mk 54 [] []) mixed [qn0] ⟨[], [], [], [], [], [], []⟩ aN (by kernel_rfl) ?_
  refine W_seq ?_
  obtain ⟨r1_0, hr1_0, h⟩ := bind_ok h
  have hr1_0 := xheap_New_ok hr1_0
  unfold RI_heap_New at hr1_0
  cases hc_y1_0 : r1_0.1 with
  | none =>
    rw [hc_y1_0] at hr1_0
    have h := oc_nx hc_y1_0 h
    refine W_y (s' := LS.mk 54 [(1, aPnil), (2, aI .i64 r1_0.2)] []) mixed [qn (.io ⟨[], [], [], [], [], [], []⟩ (.tup [aPnil, aI .i64 r1_0.2]) []), qn0, qn0, qn0, qn0, qn0] ⟨[1, 2], [], [], [], [], [], []⟩ (aC hr1_0 aN) (by kernel_rfl) ?_
    refine W_seq ?_
    refine W_seq ?_
    refine W_y (s' := LS.mk 54 [(1, aPnil), (18, aB true)] []) mixed [qn0, qn0, qn0, qn0, qn0, qn0] ⟨[1, 18], [], [], [], [], [], []⟩ aN (by kernel_rfl) ?_
    refine W_cond true (by kernel_rfl) (fun _ => ?_) (fun hb => nomatch ((rfl : true = true).symm.trans hb))
    refine W_seq ?_
    refine W_y (s' := LS.mk 54 [(0, aB false)] []) mixed [qn0] ⟨[0], [], [], [], [], [], []⟩ aN (by kernel_rfl) ?_
    refine W_ret ?_
    exact kr [] _ _ (by kernel_rfl) (Option.some.inj h)
  | some y1_0 =>
    rw [hc_y1_0] at hr1_0
    have h := oc_sx hc_y1_0 h
    refine W_y (s' := LS.mk 54 [(1, .ob 1001), (2, aI .i64 r1_0.2)] [(1001, some (.obj (.any (rep_GHeapHeap y1_0))))]) mixed [qn (.io ⟨[], [], [], [], [], [], [(700000, 10)]⟩ (.tup [.ob 700000, aI .i64 r1_0.2]) [(700000, .obj (.any (rep_GHeapHeap y1_0)))]), qn0, qn0, qn0, qn0, qn0] ⟨[1, 2], [], [], [], [(10, 1001)], [], []⟩ (aC hr1_0 aN) (by kernel_rfl) ?_
    refine W_seq ?_
    refine W_seq ?_
    refine W_y (s' := LS.mk 54 [(1, .ob 1001), (18, aB (!(decide (r1_0.2 = 0))))] [(1001, some (.obj (.any (rep_GHeapHeap y1_0))))]) mixed [qn0, qn0, qn0, qn0, qn0, qn0] ⟨[1, 18], [], [], [], [(1001, 1001)], [], []⟩ aN (by kernel_rfl) ?_
    refine W_cond (!(decide (r1_0.2 = 0))) (by kernel_rfl) (fun hb1 => ?_) (fun hb1 => ?_)
    · have hx2 : (decide (r1_0.2 = 0)) = false := (bnot_t hb1)
      have h := if_f h hx2
      refine W_seq ?_
      refine W_y (s' := LS.mk 54 [(0, aB false)] []) mixed [qn0] ⟨[0], [], [], [], [], [], []⟩ aN (by kernel_rfl) ?_
      refine W_ret ?_
      exact kr [] _ _ (by kernel_rfl) (Option.some.inj h)
    · have hx2 : (decide (r1_0.2 = 0)) = true := (bnot_f hb1)
      have h := if_t h hx2
      refine W_skip ?_
      refine W_seq ?_
      obtain ⟨r4_1, hr4_1, h⟩ := bind_ok h
      have hr4_1 := xheap_Heap_Str_ok hr4_1
      refine W_y (s' := LS.mk 54 [(1, .ob 1001), (3, .ptr 3 0), (4, aB r4_1.2.1)] [(3, some (.box 46 [aI .u8 r4_1.1.Kind, aI .i64 r4_1.1.N, aI .i64 r4_1.1.Re, aI .i64 r4_1.1.Im])), (1001, some (.obj (.any (rep_GHeapHeap r4_1.2.2))))]) mixed [qn0, qn (.io ⟨[], [(1001, 900)], [], [], [], [], [(900, 1001)]⟩ (.tup [e_GApiValue r4_1.1, aB r4_1.2.1]) [(900, .obj (.any (rep_GHeapHeap r4_1.2.2)))]), qn0, qn0, qn0, qn0, qn0, qn0] ⟨[1, 3, 4], [], [3], [], [(1001, 1001)], [], []⟩ (aC hr4_1 aN) (by kernel_rfl) ?_
      refine W_seq ?_
      obtain ⟨r5_2, hr5_2, h⟩ := bind_ok h
      have hr5_2 := xheap_Heap_List_ok hr5_2
      refine W_y (s' := LS.mk 54 [(1, .ob 1001), (3, .ptr 3 0), (4, aB r4_1.2.1), (6, aB r5_2.2.1)] [(3, some (.box 46 [aI .u8 r4_1.1.Kind, aI .i64 r4_1.1.N, aI .i64 r4_1.1.Re, aI .i64 r4_1.1.Im])), (1001, some (.obj (.any (rep_GHeapHeap r5_2.2.2))))]) mixed [qn0, qn0, qn (.io ⟨[], [(1001, 900)], [], [], [], [], [(900, 1001)]⟩ (.tup [e_GApiValue r5_2.1, aB r5_2.2.1]) [(900, .obj (.any (rep_GHeapHeap r5_2.2.2)))]), qn0, qn0, qn0, qn0, qn0, qn0] ⟨[1, 3, 4, 6], [], [3], [], [(1001, 1001)], [], []⟩ (aC hr5_2 aN) (by kernel_rfl) ?_
      refine W_seq ?_
      obtain ⟨r6_2, hr6_2, h⟩ := bind_ok h
      have hr6_2 := xheap_Heap_Size_ok hr6_2
      refine W_y (s' := LS.mk 54 [(1, .ob 1001), (4, aB r4_1.2.1), (6, aB r5_2.2.1), (7, aI .i64 r6_2.1), (8, aI .u8 r6_2.2)] [(1001, some (.obj (.any (rep_GHeapHeap r5_2.2.2))))]) mixed [qn0, qn0, qn (.io ⟨[], [(1001, 900)], [], [], [], [], [(900, 1001)]⟩ (.tup [aI .i64 r6_2.1, aI .u8 r6_2.2]) [(900, .obj (.any (rep_GHeapHeap r5_2.2.2)))]), qn0, qn0, qn0, qn0, qn0] ⟨[1, 4, 6, 7, 8], [], [], [], [(1001, 1001)], [], []⟩ (aC hr6_2 aN) (by kernel_rfl) ?_
      refine W_seq ?_
      refine (Bool.eq_false_or_eq_true r4_1.2.1).elim (fun hb3 => ?_) (fun hb3 => ?_)
      · have hx4 := hb3
        have h := ib_t h hx4
        refine (Bool.eq_false_or_eq_true (!r5_2.2.1)).elim (fun hb5 => ?_) (fun hb5 => ?_)
        · have hx6 : r5_2.2.1 = false := (bnot_t hb5)
          have h := ib_f h hx6
          refine (Bool.eq_false_or_eq_true (decide (r6_2.1 = 9))).elim (fun hb7 => ?_) (fun hb7 => ?_)
          · have hx8 := hb7
            have h := if_t h hx8
            refine (Bool.eq_false_or_eq_true (decide (r6_2.2 = 0))).elim (fun hb9 => ?_) (fun hb9 => ?_)
            · have hx10 := hb9
              have h := if_t h hx10
              obtain ⟨r7_15, hr7_15, h⟩ := bind_ok h
              have hr7_15 := xheap_Heap_Cells_ok hr7_15
              refine W_y (s' := LS.mk 54 [(0, aB (decide (r7_15 = 3)))] []) mixed [qn0, qn0, qt0, qt0, qn (.dec true), qn0, qt0, qt0, qn (.dec true), qn0, qt0, qt0, qn (.dec true), qn0, qt0, qt (.io ⟨[], [(1001, 900)], [], [], [], [], [(900, 1001)]⟩ (aI .i64 r7_15) [(900, .obj (.any (rep_GHeapHeap r5_2.2.2)))]), qt0, qn (.dec true), qn0] ⟨[0], [], [], [], [], [], []⟩ (aC hx4 (aC hx4 (aC hx4 (aC (not_f hx6) (aC (not_f hx6) (aC (not_f hx6) (aC hx8 (aC hx8 (aC hx8 (aC hx10 (aC hx10 (aC hr7_15 (aC hx10 (aC hx10 aN)))))))))))))) (by kernel_rfl) ?_
              refine W_ret ?_
              exact kr [] _ _ (by kernel_rfl) (Option.some.inj h)
            · have hx10 := hb9
              have h := if_f h hx10
              refine W_y (s' := LS.mk 54 [(0, aB false)] []) mixed [qn0, qn0, qt0, qt0, qn (.dec true), qn0, qt0, qt0, qn (.dec true), qn0, qt0, qt0, qn (.dec true), qn0, qf0, qf0, qf0, qn (.dec false), qn0] ⟨[0], [], [], [], [], [], []⟩ (aC hx4 (aC hx4 (aC hx4 (aC (not_f hx6) (aC (not_f hx6) (aC (not_f hx6) (aC hx8 (aC hx8 (aC hx8 (aC hx10 (aC hx10 (aC hx10 (aC hx10 aN))))))))))))) (by kernel_rfl) ?_
              refine W_ret ?_
              exact kr [] _ _ (by kernel_rfl) (Option.some.inj h)
          · have hx8 := hb7
            have h := if_f h hx8
            refine W_y (s' := LS.mk 54 [(0, aB false)] []) mixed [qn0, qn0, qt0, qt0, qn (.dec true), qn0, qt0, qt0, qn (.dec true), qn0, qf0, qf0, qn (.dec false), qn0, qn0, qn0, qn0, qn0, qn0] ⟨[0], [], [], [], [], [], []⟩ (aC hx4 (aC hx4 (aC hx4 (aC (not_f hx6) (aC (not_f hx6) (aC (not_f hx6) (aC hx8 (aC hx8 (aC hx8 aN))))))))) (by kernel_rfl) ?_
            refine W_ret ?_
            exact kr [] _ _ (by kernel_rfl) (Option.some.inj h)
        · have hx6 : r5_2.2.1 = true := (bnot_f hb5)
          have h := ib_t h hx6
          refine W_y (s' := LS.mk 54 [(0, aB false)] []) mixed [qn0, qn0, qt0, qt0, qn (.dec true), qn0, qf0, qf0, qn (.dec false), qn0, qn0, qn0, qn0, qn0, qn0, qn0, qn0, qn0, qn0] ⟨[0], [], [], [], [], [], []⟩ (aC hx4 (aC hx4 (aC hx4 (aC (not_t hx6) (aC (not_t hx6) (aC (not_t hx6) aN)))))) (by kernel_rfl) ?_
          refine W_ret ?_
          exact kr [] _ _ (by kernel_rfl) (Option.some.inj h)
      · have hx4 := hb3
        have h := ib_f h hx4
        refine W_y (s' := LS.mk 54 [(0, aB false)] []) mixed [qn0, qn0, qf0, qf0, qn (.dec false), qn0, qn0, qn0, qn0, qn0, qn0, qn0, qn0, qn0, qn0, qn0, qn0, qn0, qn0] ⟨[0], [], [], [], [], [], []⟩ (aC hx4 (aC hx4 (aC hx4 aN))) (by kernel_rfl) ?_
        refine W_ret ?_
        exact kr [] _ _ (by kernel_rfl) (Option.some.inj h)
def R_hindcastref11_SameValues (a0 : (List GApiValue)) (a1 : (List GApiValue)) (r : Bool) : Prop := FnP Try.prog 34 [.t (.sl 4 (a0.map c_GApiValue)), .t (.sl 4 (a1.map c_GApiValue))] (aB r)
inductive hindcastref11_SameValues_C where
  | l0 (a0 : (List GApiValue)) (a1 : (List GApiValue)) (v0_13_0 : Int)
  | j1 
abbrev hindcastref11_SameValues_C_T : hindcastref11_SameValues_C → Type := fun _ => Bool
noncomputable def hindcastref11_SameValues_l0_b (g : (i : hindcastref11_SameValues_C) → Option (hindcastref11_SameValues_C_T i)) (a0 : (List GApiValue)) (a1 : (List GApiValue)) (v0_13_0 : Int) : Option Bool :=
  (if v0_13_0 < (a0.length : Int) then ((getI a0 v0_13_0).bind fun (x6_2 : GApiValue) => ((getI a1 v0_13_0).bind fun (x6_6 : GApiValue) => (if (decide (x6_2.Kind = x6_6.Kind) && (decide (x6_2.N = x6_6.N) && (decide (x6_2.Re = x6_6.Re) && decide (x6_2.Im = x6_6.Im)))) = true then g (.l0 a0 a1 (w64 (v0_13_0 + 1))) else (some false)))) else g (.j1))
noncomputable def hindcastref11_SameValues_j1_b (g : (i : hindcastref11_SameValues_C) → Option (hindcastref11_SameValues_C_T i))  : Option Bool :=
  (some true)
noncomputable def hindcastref11_SameValues_B (g : (i : hindcastref11_SameValues_C) → Option (hindcastref11_SameValues_C_T i)) : (i : hindcastref11_SameValues_C) → Option (hindcastref11_SameValues_C_T i)
  | .l0 a0 a1 v0_13_0 => hindcastref11_SameValues_l0_b g a0 a1 v0_13_0
  | .j1  => hindcastref11_SameValues_j1_b g 
theorem hindcastref11_SameValues_B_fin (i : hindcastref11_SameValues_C) : Fin1 (fun g => hindcastref11_SameValues_B g i) := by
  cases i with
  | l0 a0 a1 v0_13_0 => show Fin1 (fun g => hindcastref11_SameValues_l0_b g a0 a1 v0_13_0); unfold hindcastref11_SameValues_l0_b; repeat (first | refine fin_bind ?_ (fun _ => ?_) | refine fin_ite ?_ ?_ | refine fin_opt ?_ (fun _ => ?_) | exact fin_ask _ | exact fin_const _)
  | j1  => show Fin1 (fun g => hindcastref11_SameValues_j1_b g ); unfold hindcastref11_SameValues_j1_b; repeat (first | refine fin_bind ?_ (fun _ => ?_) | refine fin_ite ?_ ?_ | refine fin_opt ?_ (fun _ => ?_) | exact fin_ask _ | exact fin_const _)
noncomputable def hindcastref11_SameValues_l0 (a0 : (List GApiValue)) (a1 : (List GApiValue)) (v0_13_0 : Int) : Option Bool := fixD hindcastref11_SameValues_B (.l0 a0 a1 v0_13_0)
noncomputable def hindcastref11_SameValues_j1  : Option Bool := fixD hindcastref11_SameValues_B (.j1 )
theorem hindcastref11_SameValues_l0_eq (a0 : (List GApiValue)) (a1 : (List GApiValue)) (v0_13_0 : Int) : hindcastref11_SameValues_l0 a0 a1 v0_13_0 =
  (if v0_13_0 < (a0.length : Int) then ((getI a0 v0_13_0).bind fun (x6_2 : GApiValue) => ((getI a1 v0_13_0).bind fun (x6_6 : GApiValue) => (if (decide (x6_2.Kind = x6_6.Kind) && (decide (x6_2.N = x6_6.N) && (decide (x6_2.Re = x6_6.Re) && decide (x6_2.Im = x6_6.Im)))) = true then hindcastref11_SameValues_l0 a0 a1 (w64 (v0_13_0 + 1)) else (some false)))) else hindcastref11_SameValues_j1) := fix_eq hindcastref11_SameValues_B_fin _
theorem hindcastref11_SameValues_j1_eq  : hindcastref11_SameValues_j1  =
  (some true) := fix_eq hindcastref11_SameValues_B_fin _
set_option maxRecDepth 100000 in
theorem hindcastref11_SameValues_l0_ok (n : Nat)  (a0 : (List GApiValue)) (a1 : (List GApiValue)) (v0_13_0 : Int) (r_ : Bool) (Q' : Exit → St → Prop) (kr : ∀ (ns : List (Nat × Nat × Nat)) (s : LS) (x : Bool), retX Try.prog ns [.tmp 4] s = some (aB x) → x = r_ → Q' .ret s.st) (k_x_0 : ∀ (q : Nat), q < n → ∀  (s' : LS), recN hindcastref11_SameValues_B q (.j1 ) = some r_ → Fits s'.st (LS.mk 26 [] []).st → Q' (.exit 0) s'.st) (h : recN hindcastref11_SameValues_B n (.l0 a0 a1 v0_13_0) = some r_) : W Try.prog (subC (bodyC Try.prog 34) [1, 1, 0, 1, 0]) (LS.mk 26 [(0, .t (.sl 4 (a0.map c_GApiValue))), (1, .t (.sl 4 (a1.map c_GApiValue))), (12, aI .i64 (a0.length : Int)), (13, aI .i64 v0_13_0)] []).st Q' := by
  refine W_fix (σ := Int) (fun m x_ => m ≤ n ∧ recN hindcastref11_SameValues_B m (.l0 a0 a1 x_) = some r_) (fun x_ => LS.mk 26 [(0, .t (.sl 4 (a0.map c_GApiValue))), (1, .t (.sl 4 (a1.map c_GApiValue))), (12, aI .i64 (a0.length : Int)), (13, aI .i64 x_)] []) (fun x hx => by cases hx.2) (fun _ _ => rfl) ?_ n (v0_13_0) ⟨Nat.le_refl _, h⟩
  clear h
  rintro m v0_13_0 ⟨hlt, h⟩
  replace h : hindcastref11_SameValues_l0_b (recN hindcastref11_SameValues_B m) a0 a1 v0_13_0 = some r_ := h
  unfold hindcastref11_SameValues_l0_b at h
  refine W_seq ?_
  refine W_y (s' := LS.mk 26 [(0, .t (.sl 4 (a0.map c_GApiValue))), (1, .t (.sl 4 (a1.map c_GApiValue))), (12, aI .i64 (a0.length : Int)), (13, aI .i64 v0_13_0), (14, aB (decide (v0_13_0 < (a0.length : Int))))] []) mixed [qn0] ⟨[0, 1, 12, 13, 14], [], [], [], [], [], []⟩ aN (by kernel_rfl) ?_
  refine W_seq ?_
  refine W_cond (decide (v0_13_0 < (a0.length : Int))) (by kernel_rfl) (fun hb1001 => ?_) (fun hb1001 => ?_)
  · have hx1002 := hb1001
    have h := if_t h hx1002
    refine W_skip ?_
    refine W_seq ?_
    refine W_block ?_
    refine W_seq ?_
    refine W_y (s' := LS.mk 26 [(0, .t (.sl 4 (a0.map c_GApiValue))), (1, .t (.sl 4 (a1.map c_GApiValue))), (5, aI .i64 v0_13_0), (12, aI .i64 (a0.length : Int)), (13, aI .i64 v0_13_0)] []) mixed [qn0, qn0] ⟨[0, 1, 5, 12, 13], [], [], [], [], [], []⟩ aN (by kernel_rfl) ?_
    refine W_seq ?_
    obtain ⟨x6_2, hx6_2, h⟩ := bind_ok h
    obtain ⟨x6_6, hx6_6, h⟩ := bind_ok h
    refine W_y (s' := LS.mk 26 [(0, .t (.sl 4 (a0.map c_GApiValue))), (1, .t (.sl 4 (a1.map c_GApiValue))), (12, aI .i64 (a0.length : Int)), (13, aI .i64 v0_13_0), (24, aB (!(decide (x6_2.Kind = x6_6.Kind) && (decide (x6_2.N = x6_6.N) && (decide (x6_2.Re = x6_6.Re) && decide (x6_2.Im = x6_6.Im))))))] []) mixed [qn0, qn0, qn (.ix (Int.toNat v0_13_0) (c_GApiValue x6_2)), qn0, qn0, qn0, qn (.ix (Int.toNat v0_13_0) (c_GApiValue x6_6)), qn0, qn (.quiet (aB (!(decide (x6_2.Kind = x6_6.Kind) && (decide (x6_2.N = x6_6.N) && (decide (x6_2.Re = x6_6.Re) && decide (x6_2.Im = x6_6.Im)))))))] ⟨[0, 1, 12, 13, 24], [], [], [], [], [], []⟩ (aC (ix_obx c_GApiValue hx6_2) (aC (ix_obx c_GApiValue hx6_6) (aC (show Quiet Try.prog (opAt (subC (bodyC Try.prog 34) [1, 1, 0, 1, 0, 0, 1, 1, 0, 0, 1, 0]) 8) [e_GApiValue x6_2, e_GApiValue x6_6] (aB (!(decide (x6_2.Kind = x6_6.Kind) && (decide (x6_2.N = x6_6.N) && (decide (x6_2.Re = x6_6.Re) && decide (x6_2.Im = x6_6.Im)))))) from eqA_ob (P := Try.prog) (ne := true) (xs := [.int .u8 x6_2.Kind, .int .i64 x6_2.N, .int .i64 x6_2.Re, .int .i64 x6_2.Im]) (ys := [.int .u8 x6_6.Kind, .int .i64 x6_6.N, .int .i64 x6_6.Re, .int .i64 x6_6.Im]) (hh := none) ⟨_, by rfl⟩ (by kernel_rfl) (by kernel_rfl)) aN))) (by kernel_rfl) ?_
    refine W_cond (!(decide (x6_2.Kind = x6_6.Kind) && (decide (x6_2.N = x6_6.N) && (decide (x6_2.Re = x6_6.Re) && decide (x6_2.Im = x6_6.Im))))) (by kernel_rfl) (fun hb1003 => ?_) (fun hb1003 => ?_)
    · have hx1004 : (decide (x6_2.Kind = x6_6.Kind) && (decide (x6_2.N = x6_6.N) && (decide (x6_2.Re = x6_6.Re) && decide (x6_2.Im = x6_6.Im)))) = false := (bnot_t hb1003)
      have h := ib_f h hx1004
      refine W_seq ?_
      refine W_y (s' := LS.mk 26 [(4, aB false)] []) mixed [qn0] ⟨[4], [], [], [], [], [], []⟩ aN (by kernel_rfl) ?_
      refine W_ret ?_
      exact kr [] _ _ (by kernel_rfl) (Option.some.inj h)
    · have hx1004 : (decide (x6_2.Kind = x6_6.Kind) && (decide (x6_2.N = x6_6.N) && (decide (x6_2.Re = x6_6.Re) && decide (x6_2.Im = x6_6.Im)))) = true := (bnot_f hb1003)
      have h := ib_t h hx1004
      refine W_skip ?_
      refine W_y (s' := LS.mk 26 [(0, .t (.sl 4 (a0.map c_GApiValue))), (1, .t (.sl 4 (a1.map c_GApiValue))), (12, aI .i64 (a0.length : Int)), (13, aI .i64 (w64 (v0_13_0 + 1)))] []) mixed [qn0, qn0] ⟨[0, 1, 12, 13], [], [], [], [], [], []⟩ aN (by kernel_rfl) ?_
      exact ⟨m, ((w64 (v0_13_0 + 1))), Nat.le_refl _, ⟨Nat.le_of_lt hlt, h⟩, convX_fits (v := ⟨[0, 1, 12, 13], [], [], [], [], [], []⟩) (s' := LS.mk 26 [(0, .t (.sl 4 (a0.map c_GApiValue))), (1, .t (.sl 4 (a1.map c_GApiValue))), (12, aI .i64 (a0.length : Int)), (13, aI .i64 (w64 (v0_13_0 + 1)))] []) (by kernel_rfl)⟩
  · have hx1002 := hb1001
    have h := if_f h hx1002
    refine W_exit ?_
    exact k_x_0 m hlt  _ h (convX_fits (v := ⟨[], [], [], [], [], [], []⟩) (s' := LS.mk 26 [] []) (by kernel_rfl))
set_option maxRecDepth 100000 in
theorem hindcastref11_SameValues_j1_ok (n : Nat)   (r_ : Bool) (Q' : Exit → St → Prop) (kr : ∀ (ns : List (Nat × Nat × Nat)) (s : LS) (x : Bool), retX Try.prog ns [.tmp 4] s = some (aB x) → x = r_ → Q' .ret s.st)  (h : recN hindcastref11_SameValues_B n (.j1 ) = some r_) : W Try.prog (subC (bodyC Try.prog 34) [1, 1, 1]) (LS.mk 26 [] []).st Q' := by
  cases n with
  | zero => cases h
  | succ m =>
  have hlt : m < m + 1 := Nat.lt_succ_self m
  replace h : hindcastref11_SameValues_j1_b (recN hindcastref11_SameValues_B m)  = some r_ := h
  unfold hindcastref11_SameValues_j1_b at h
  refine W_seq ?_
  refine W_y (s' := LS.mk 26 [(4, aB true)] []) mixed [qn0] ⟨[4], [], [], [], [], [], []⟩ aN (by kernel_rfl) ?_
  refine W_ret ?_
  exact kr [] _ _ (by kernel_rfl) (Option.some.inj h)
noncomputable def hindcastref11_SameValues (a0 : (List GApiValue)) (a1 : (List GApiValue)) : Option Bool :=
  (if (a0.length : Int) = (a1.length : Int) then hindcastref11_SameValues_l0 a0 a1 0 else (some false))
set_option maxRecDepth 100000 in
theorem hindcastref11_SameValues_ok {a0 : (List GApiValue)} {a1 : (List GApiValue)} {r_ : Bool} (h : hindcastref11_SameValues a0 a1 = some r_) : R_hindcastref11_SameValues a0 a1 r_ := by
  unfold hindcastref11_SameValues at h
  refine fn_pureX (fn := Try.f34) (by kernel_rfl) (c := subC (bodyC Try.prog 34) []) (by kernel_rfl) (by kernel_rfl) (Nat.le_of_ble_eq_true (by kernel_rfl)) ?_
  generalize hQ' : retQ Try.prog Try.f34 (aB r_) = Q'
  have kr : ∀ (ns : List (Nat × Nat × Nat)) (s : LS) (x : Bool), retX Try.prog ns [.tmp 4] s = some (aB x) → x = r_ → Q' .ret s.st := by subst hQ'; intro ns s x hx hq; subst hq; exact ret_ok (fn := Try.f34) ns hx
  change W Try.prog _ (LS.mk 26 [(0, .t (.sl 4 (a0.map c_GApiValue))), (1, .t (.sl 4 (a1.map c_GApiValue)))] []).st Q'
  refine W_seq ?_
  refine W_y (s' := LS.mk 26 [(0, .t (.sl 4 (a0.map c_GApiValue))), (1, .t (.sl 4 (a1.map c_GApiValue)))] []) mixed [qn0] ⟨[0, 1], [], [], [], [], [], []⟩ aN (by kernel_rfl) ?_
  refine W_seq ?_
  refine W_seq ?_
  refine W_y (s' := LS.mk 26 [(0, .t (.sl 4 (a0.map c_GApiValue))), (1, .t (.sl 4 (a1.map c_GApiValue))), (10, aB (!(decide ((a0.length : Int) = (a1.length : Int)))))] []) mixed [qn0, qn (.len a0.length), qn0, qn (.len a1.length), qn0] ⟨[0, 1, 10], [], [], [], [], [], []⟩ (aC (len_obx c_GApiValue a0) (aC (len_obx c_GApiValue a1) aN)) (by kernel_rfl) ?_
  refine W_cond (!(decide ((a0.length : Int) = (a1.length : Int)))) (by kernel_rfl) (fun hb1 => ?_) (fun hb1 => ?_)
  · have hx2 : (decide ((a0.length : Int) = (a1.length : Int))) = false := (bnot_t hb1)
    have h := if_f h hx2
    refine W_seq ?_
    refine W_y (s' := LS.mk 26 [(4, aB false)] []) mixed [qn0] ⟨[4], [], [], [], [], [], []⟩ aN (by kernel_rfl) ?_
    refine W_ret ?_
    exact kr [] _ _ (by kernel_rfl) (Option.some.inj h)
  · have hx2 : (decide ((a0.length : Int) = (a1.length : Int))) = true := (bnot_f hb1)
    have h := if_t h hx2
    refine W_skip ?_
    refine W_seq ?_
    refine W_seq ?_
    refine W_y (s' := LS.mk 26 [(0, .t (.sl 4 (a0.map c_GApiValue))), (1, .t (.sl 4 (a1.map c_GApiValue))), (12, aI .i64 (a0.length : Int)), (13, aI .i64 0)] []) mixed [qn0, qn (.len a0.length), qn0] ⟨[0, 1, 12, 13], [], [], [], [], [], []⟩ (aC (len_obx c_GApiValue a0) aN) (by kernel_rfl) ?_
    refine W_block ?_
    obtain ⟨n, h⟩ := fix_rec h
    exact W_conv (s' := LS.mk 26 [(0, .t (.sl 4 (a0.map c_GApiValue))), (1, .t (.sl 4 (a1.map c_GApiValue))), (12, aI .i64 (a0.length : Int)), (13, aI .i64 0)] []) ⟨[0, 1, 12, 13], [], [], [], [], [], []⟩ (by kernel_rfl) (hindcastref11_SameValues_l0_ok n a0 a1 0 r_ _ kr (fun q1 hq1  s' h hf => W_pre hf (hindcastref11_SameValues_j1_ok q1 r_ _ kr h)) h)
def R_hindcastref11_Same (a0 : (List GApiObj)) (a1 : (List GApiObj)) (r : Bool) : Prop := FnP Try.prog 15 [.t (.sl 4 (a0.map c_GApiObj)), .t (.sl 4 (a1.map c_GApiObj))] (aB r)
inductive hindcastref11_Same_C where
  | l0 (a0 : (List GApiObj)) (a1 : (List GApiObj)) (v0_13_0 : Int)
  | j1 
abbrev hindcastref11_Same_C_T : hindcastref11_Same_C → Type := fun _ => Bool
noncomputable def hindcastref11_Same_l0_b (g : (i : hindcastref11_Same_C) → Option (hindcastref11_Same_C_T i)) (a0 : (List GApiObj)) (a1 : (List GApiObj)) (v0_13_0 : Int) : Option Bool :=
  (if v0_13_0 < (a0.length : Int) then ((getI a0 v0_13_0).bind fun (x6_2 : GApiObj) => ((getI a1 v0_13_0).bind fun (x6_7 : GApiObj) => (if x6_2.Kind = x6_7.Kind then (if x6_2.Of = x6_7.Of then (if x6_2.Text = x6_7.Text then ((hindcastref11_SameValues x6_2.Vals x6_7.Vals).bind fun (r6_48 : Bool) => (if r6_48 = true then g (.l0 a0 a1 (w64 (v0_13_0 + 1))) else (some false))) else (some false)) else (some false)) else (some false)))) else g (.j1))
noncomputable def hindcastref11_Same_j1_b (g : (i : hindcastref11_Same_C) → Option (hindcastref11_Same_C_T i))  : Option Bool :=
  (some true)
noncomputable def hindcastref11_Same_B (g : (i : hindcastref11_Same_C) → Option (hindcastref11_Same_C_T i)) : (i : hindcastref11_Same_C) → Option (hindcastref11_Same_C_T i)
  | .l0 a0 a1 v0_13_0 => hindcastref11_Same_l0_b g a0 a1 v0_13_0
  | .j1  => hindcastref11_Same_j1_b g 
theorem hindcastref11_Same_B_fin (i : hindcastref11_Same_C) : Fin1 (fun g => hindcastref11_Same_B g i) := by
  cases i with
  | l0 a0 a1 v0_13_0 => show Fin1 (fun g => hindcastref11_Same_l0_b g a0 a1 v0_13_0); unfold hindcastref11_Same_l0_b; repeat (first | refine fin_bind ?_ (fun _ => ?_) | refine fin_ite ?_ ?_ | refine fin_opt ?_ (fun _ => ?_) | exact fin_ask _ | exact fin_const _)
  | j1  => show Fin1 (fun g => hindcastref11_Same_j1_b g ); unfold hindcastref11_Same_j1_b; repeat (first | refine fin_bind ?_ (fun _ => ?_) | refine fin_ite ?_ ?_ | refine fin_opt ?_ (fun _ => ?_) | exact fin_ask _ | exact fin_const _)
noncomputable def hindcastref11_Same_l0 (a0 : (List GApiObj)) (a1 : (List GApiObj)) (v0_13_0 : Int) : Option Bool := fixD hindcastref11_Same_B (.l0 a0 a1 v0_13_0)
noncomputable def hindcastref11_Same_j1  : Option Bool := fixD hindcastref11_Same_B (.j1 )
theorem hindcastref11_Same_l0_eq (a0 : (List GApiObj)) (a1 : (List GApiObj)) (v0_13_0 : Int) : hindcastref11_Same_l0 a0 a1 v0_13_0 =
  (if v0_13_0 < (a0.length : Int) then ((getI a0 v0_13_0).bind fun (x6_2 : GApiObj) => ((getI a1 v0_13_0).bind fun (x6_7 : GApiObj) => (if x6_2.Kind = x6_7.Kind then (if x6_2.Of = x6_7.Of then (if x6_2.Text = x6_7.Text then ((hindcastref11_SameValues x6_2.Vals x6_7.Vals).bind fun (r6_48 : Bool) => (if r6_48 = true then hindcastref11_Same_l0 a0 a1 (w64 (v0_13_0 + 1)) else (some false))) else (some false)) else (some false)) else (some false)))) else hindcastref11_Same_j1) := fix_eq hindcastref11_Same_B_fin _
theorem hindcastref11_Same_j1_eq  : hindcastref11_Same_j1  =
  (some true) := fix_eq hindcastref11_Same_B_fin _
set_option maxRecDepth 100000 in
theorem hindcastref11_Same_l0_ok (n : Nat)  (a0 : (List GApiObj)) (a1 : (List GApiObj)) (v0_13_0 : Int) (r_ : Bool) (Q' : Exit → St → Prop) (kr : ∀ (ns : List (Nat × Nat × Nat)) (s : LS) (x : Bool), retX Try.prog ns [.tmp 4] s = some (aB x) → x = r_ → Q' .ret s.st) (k_x_0 : ∀ (q : Nat), q < n → ∀  (s' : LS), recN hindcastref11_Same_B q (.j1 ) = some r_ → Fits s'.st (LS.mk 68 [] []).st → Q' (.exit 0) s'.st) (h : recN hindcastref11_Same_B n (.l0 a0 a1 v0_13_0) = some r_) : W Try.prog (subC (bodyC Try.prog 15) [1, 1, 0, 1, 0]) (LS.mk 68 [(0, .t (.sl 4 (a0.map c_GApiObj))), (1, .t (.sl 4 (a1.map c_GApiObj))), (12, aI .i64 (a0.length : Int)), (13, aI .i64 v0_13_0)] []).st Q' := by
  refine W_fix (σ := Int) (fun m x_ => m ≤ n ∧ recN hindcastref11_Same_B m (.l0 a0 a1 x_) = some r_) (fun x_ => LS.mk 68 [(0, .t (.sl 4 (a0.map c_GApiObj))), (1, .t (.sl 4 (a1.map c_GApiObj))), (12, aI .i64 (a0.length : Int)), (13, aI .i64 x_)] []) (fun x hx => by cases hx.2) (fun _ _ => rfl) ?_ n (v0_13_0) ⟨Nat.le_refl _, h⟩
  clear h
  rintro m v0_13_0 ⟨hlt, h⟩
  replace h : hindcastref11_Same_l0_b (recN hindcastref11_Same_B m) a0 a1 v0_13_0 = some r_ := h
  unfold hindcastref11_Same_l0_b at h
  refine W_seq ?_
  refine W_y (s' := LS.mk 68 [(0, .t (.sl 4 (a0.map c_GApiObj))), (1, .t (.sl 4 (a1.map c_GApiObj))), (12, aI .i64 (a0.length : Int)), (13, aI .i64 v0_13_0), (14, aB (decide (v0_13_0 < (a0.length : Int))))] []) mixed [qn0] ⟨[0, 1, 12, 13, 14], [], [], [], [], [], []⟩ aN (by kernel_rfl) ?_
  refine W_seq ?_
  refine W_cond (decide (v0_13_0 < (a0.length : Int))) (by kernel_rfl) (fun hb1001 => ?_) (fun hb1001 => ?_)
  · have hx1002 := hb1001
    have h := if_t h hx1002
    refine W_skip ?_
    refine W_seq ?_
    refine W_block ?_
    refine W_seq ?_
    refine W_y (s' := LS.mk 68 [(0, .t (.sl 4 (a0.map c_GApiObj))), (1, .t (.sl 4 (a1.map c_GApiObj))), (5, aI .i64 v0_13_0), (12, aI .i64 (a0.length : Int)), (13, aI .i64 v0_13_0)] []) mixed [qn0, qn0] ⟨[0, 1, 5, 12, 13], [], [], [], [], [], []⟩ aN (by kernel_rfl) ?_
    refine W_seq ?_
    obtain ⟨x6_2, hx6_2, h⟩ := bind_ok h
    obtain ⟨x6_7, hx6_7, h⟩ := bind_ok h
    refine (Bool.eq_false_or_eq_true (!(decide (x6_2.Kind = x6_7.Kind)))).elim (fun hb1003 => ?_) (fun hb1003 => ?_)
    · have hx1004 : (decide (x6_2.Kind = x6_7.Kind)) = false := (bnot_t hb1003)
      have h := if_f h hx1004
      refine W_y (s' := LS.mk 68 [(0, .t (.sl 4 (a0.map c_GApiObj))), (1, .t (.sl 4 (a1.map c_GApiObj))), (12, aI .i64 (a0.length : Int)), (13, aI .i64 v0_13_0), (66, aB true)] []) mixed [qn0, qn0, qn (.ix (Int.toNat v0_13_0) (c_GApiObj x6_2)), qn0, qn0, qn0, qn0, qn (.ix (Int.toNat v0_13_0) (c_GApiObj x6_7)), qn0, qn0, qn0, qn0, qt0, qt0, qt0, qt0, qt0, qt0, qt0, qt0, qt0, qt0, qt0, qn (.dec true), qn0, qn0, qn0, qn0, qn0, qn0, qn0, qn0, qn0, qn0, qn0, qn0, qn0, qn0, qn0, qn0, qn0, qn0, qn0, qn0, qn0, qn0, qn0, qn0, qn0, qn0, qn0] ⟨[0, 1, 12, 13, 66], [], [], [], [], [], []⟩ (aC (ix_obx c_GApiObj hx6_2) (aC (ix_obx c_GApiObj hx6_7) (aC (not_f hx1004) (aC (not_f hx1004) (aC (not_f hx1004) (aC (not_f hx1004) (aC (not_f hx1004) (aC (not_f hx1004) (aC (not_f hx1004) (aC (not_f hx1004) (aC (not_f hx1004) (aC (not_f hx1004) (aC (not_f hx1004) (aC (not_f hx1004) aN)))))))))))))) (by kernel_rfl) ?_
      refine W_cond true (by kernel_rfl) (fun _ => ?_) (fun hb => nomatch ((rfl : true = true).symm.trans hb))
      refine W_seq ?_
      refine W_y (s' := LS.mk 68 [(4, aB false)] []) mixed [qn0] ⟨[4], [], [], [], [], [], []⟩ aN (by kernel_rfl) ?_
      refine W_ret ?_
      exact kr [] _ _ (by kernel_rfl) (Option.some.inj h)
    · have hx1004 : (decide (x6_2.Kind = x6_7.Kind)) = true := (bnot_f hb1003)
      have h := if_t h hx1004
      refine (Bool.eq_false_or_eq_true (!(decide (x6_2.Of = x6_7.Of)))).elim (fun hb1005 => ?_) (fun hb1005 => ?_)
      · have hx1006 : (decide (x6_2.Of = x6_7.Of)) = false := (bnot_t hb1005)
        have h := if_f h hx1006
        refine W_y (s' := LS.mk 68 [(0, .t (.sl 4 (a0.map c_GApiObj))), (1, .t (.sl 4 (a1.map c_GApiObj))), (12, aI .i64 (a0.length : Int)), (13, aI .i64 v0_13_0), (66, aB true)] []) mixed [qn0, qn0, qn (.ix (Int.toNat v0_13_0) (c_GApiObj x6_2)), qn0, qn0, qn0, qn0, qn (.ix (Int.toNat v0_13_0) (c_GApiObj x6_7)), qn0, qn0, qn0, qn0, qf0, qf0, qf (.ix (Int.toNat v0_13_0) (c_GApiObj x6_2)), qf0, qf0, qf0, qf0, qf (.ix (Int.toNat v0_13_0) (c_GApiObj x6_7)), qf0, qf0, qf0, qn (.dec false), qn0, qt0, qt0, qt0, qt0, qt0, qt0, qt0, qt0, qt0, qt0, qt0, qn (.dec true), qn0, qn0, qn0, qn0, qn0, qn0, qn0, qn0, qn0, qn0, qn0, qn0, qn0, qn0] ⟨[0, 1, 12, 13, 66], [], [], [], [], [], []⟩ (aC (ix_obx c_GApiObj hx6_2) (aC (ix_obx c_GApiObj hx6_7) (aC (not_t hx1004) (aC (not_t hx1004) (aC (not_t hx1004) (aC (ix_obx c_GApiObj hx6_2) (aC (not_t hx1004) (aC (not_t hx1004) (aC (not_t hx1004) (aC (not_t hx1004) (aC (not_t hx1004) (aC (ix_obx c_GApiObj hx6_7) (aC (not_t hx1004) (aC (not_t hx1004) (aC (not_t hx1004) (aC (not_t hx1004) (aC (not_f hx1006) (aC (not_f hx1006) (aC (not_f hx1006) (aC (not_f hx1006) (aC (not_f hx1006) (aC (not_f hx1006) (aC (not_f hx1006) (aC (not_f hx1006) (aC (not_f hx1006) (aC (not_f hx1006) (aC (not_f hx1006) (aC (not_f hx1006) aN)))))))))))))))))))))))))))) (by kernel_rfl) ?_
        refine W_cond true (by kernel_rfl) (fun _ => ?_) (fun hb => nomatch ((rfl : true = true).symm.trans hb))
        refine W_seq ?_
        refine W_y (s' := LS.mk 68 [(4, aB false)] []) mixed [qn0] ⟨[4], [], [], [], [], [], []⟩ aN (by kernel_rfl) ?_
        refine W_ret ?_
        exact kr [] _ _ (by kernel_rfl) (Option.some.inj h)
      · have hx1006 : (decide (x6_2.Of = x6_7.Of)) = true := (bnot_f hb1005)
        have h := if_t h hx1006
        refine (Bool.eq_false_or_eq_true (!(decide (x6_2.Text = x6_7.Text)))).elim (fun hb1007 => ?_) (fun hb1007 => ?_)
        · have hx1008 : (decide (x6_2.Text = x6_7.Text)) = false := (bnot_t hb1007)
          have h := if_f h hx1008
          refine W_y (s' := LS.mk 68 [(0, .t (.sl 4 (a0.map c_GApiObj))), (1, .t (.sl 4 (a1.map c_GApiObj))), (12, aI .i64 (a0.length : Int)), (13, aI .i64 v0_13_0), (66, aB true)] []) mixed [qn0, qn0, qn (.ix (Int.toNat v0_13_0) (c_GApiObj x6_2)), qn0, qn0, qn0, qn0, qn (.ix (Int.toNat v0_13_0) (c_GApiObj x6_7)), qn0, qn0, qn0, qn0, qf0, qf0, qf (.ix (Int.toNat v0_13_0) (c_GApiObj x6_2)), qf0, qf0, qf0, qf0, qf (.ix (Int.toNat v0_13_0) (c_GApiObj x6_7)), qf0, qf0, qf0, qn (.dec false), qn0, qf0, qf0, qf (.ix (Int.toNat v0_13_0) (c_GApiObj x6_2)), qf0, qf0, qf0, qf0, qf (.ix (Int.toNat v0_13_0) (c_GApiObj x6_7)), qf0, qf0, qf (.val (.bool (!(decide (x6_2.Text = x6_7.Text))))), qn (.dec false), qn0, qt0, qt0, qt0, qt0, qt0, qt0, qt0, qt0, qt0, qt0, qt0, qt0, qn (.dec true)] ⟨[0, 1, 12, 13, 66], [], [], [], [], [], []⟩ (aC (ix_obx c_GApiObj hx6_2) (aC (ix_obx c_GApiObj hx6_7) (aC (not_t hx1004) (aC (not_t hx1004) (aC (not_t hx1004) (aC (ix_obx c_GApiObj hx6_2) (aC (not_t hx1004) (aC (not_t hx1004) (aC (not_t hx1004) (aC (not_t hx1004) (aC (not_t hx1004) (aC (ix_obx c_GApiObj hx6_7) (aC (not_t hx1004) (aC (not_t hx1004) (aC (not_t hx1004) (aC (not_t hx1004) (aC (not_t hx1006) (aC (not_t hx1006) (aC (not_t hx1006) (aC (ix_obx c_GApiObj hx6_2) (aC (not_t hx1006) (aC (not_t hx1006) (aC (not_t hx1006) (aC (not_t hx1006) (aC (not_t hx1006) (aC (ix_obx c_GApiObj hx6_7) (aC (not_t hx1006) (aC (not_t hx1006) (aC (not_t hx1006) (aC (str_ne_ob (P := Try.prog) 9 x6_2.Text x6_7.Text) (aC (not_t hx1006) (aC (not_f hx1008) (aC (not_f hx1008) (aC (not_f hx1008) (aC (not_f hx1008) (aC (not_f hx1008) (aC (not_f hx1008) (aC (not_f hx1008) (aC (not_f hx1008) (aC (not_f hx1008) (aC (not_f hx1008) (aC (not_f hx1008) (aC (not_f hx1008) (aC (not_f hx1008) aN)))))))))))))))))))))))))))))))))))))))))))) (by kernel_rfl) ?_
          refine W_cond true (by kernel_rfl) (fun _ => ?_) (fun hb => nomatch ((rfl : true = true).symm.trans hb))
          refine W_seq ?_
          refine W_y (s' := LS.mk 68 [(4, aB false)] []) mixed [qn0] ⟨[4], [], [], [], [], [], []⟩ aN (by kernel_rfl) ?_
          refine W_ret ?_
          exact kr [] _ _ (by kernel_rfl) (Option.some.inj h)
        · have hx1008 : (decide (x6_2.Text = x6_7.Text)) = true := (bnot_f hb1007)
          have h := if_t h hx1008
          obtain ⟨r6_48, hr6_48, h⟩ := bind_ok h
          have hr6_48 := hindcastref11_SameValues_ok hr6_48
          refine W_y (s' := LS.mk 68 [(0, .t (.sl 4 (a0.map c_GApiObj))), (1, .t (.sl 4 (a1.map c_GApiObj))), (12, aI .i64 (a0.length : Int)), (13, aI .i64 v0_13_0), (66, aB (!r6_48))] []) mixed [qn0, qn0, qn (.ix (Int.toNat v0_13_0) (c_GApiObj x6_2)), qn0, qn0, qn0, qn0, qn (.ix (Int.toNat v0_13_0) (c_GApiObj x6_7)), qn0, qn0, qn0, qn0, qf0, qf0, qf (.ix (Int.toNat v0_13_0) (c_GApiObj x6_2)), qf0, qf0, qf0, qf0, qf (.ix (Int.toNat v0_13_0) (c_GApiObj x6_7)), qf0, qf0, qf0, qn (.dec false), qn0, qf0, qf0, qf (.ix (Int.toNat v0_13_0) (c_GApiObj x6_2)), qf0, qf0, qf0, qf0, qf (.ix (Int.toNat v0_13_0) (c_GApiObj x6_7)), qf0, qf0, qf (.val (.bool (!(decide (x6_2.Text = x6_7.Text))))), qn (.dec false), qn0, qf0, qf0, qf (.ix (Int.toNat v0_13_0) (c_GApiObj x6_2)), qf0, qf0, qf0, qf0, qf (.ix (Int.toNat v0_13_0) (c_GApiObj x6_7)), qf0, qf0, qf (.call [] (aB r6_48)), qf0, qn (.dec false)] ⟨[0, 1, 12, 13, 66], [], [], [], [], [], []⟩ (aC (ix_obx c_GApiObj hx6_2) (aC (ix_obx c_GApiObj hx6_7) (aC (not_t hx1004) (aC (not_t hx1004) (aC (not_t hx1004) (aC (ix_obx c_GApiObj hx6_2) (aC (not_t hx1004) (aC (not_t hx1004) (aC (not_t hx1004) (aC (not_t hx1004) (aC (not_t hx1004) (aC (ix_obx c_GApiObj hx6_7) (aC (not_t hx1004) (aC (not_t hx1004) (aC (not_t hx1004) (aC (not_t hx1004) (aC (not_t hx1006) (aC (not_t hx1006) (aC (not_t hx1006) (aC (ix_obx c_GApiObj hx6_2) (aC (not_t hx1006) (aC (not_t hx1006) (aC (not_t hx1006) (aC (not_t hx1006) (aC (not_t hx1006) (aC (ix_obx c_GApiObj hx6_7) (aC (not_t hx1006) (aC (not_t hx1006) (aC (not_t hx1006) (aC (str_ne_ob (P := Try.prog) 9 x6_2.Text x6_7.Text) (aC (not_t hx1006) (aC (not_t hx1008) (aC (not_t hx1008) (aC (not_t hx1008) (aC (ix_obx c_GApiObj hx6_2) (aC (not_t hx1008) (aC (not_t hx1008) (aC (not_t hx1008) (aC (not_t hx1008) (aC (not_t hx1008) (aC (ix_obx c_GApiObj hx6_7) (aC (not_t hx1008) (aC (not_t hx1008) (aC (not_t hx1008) (aC hr6_48 (aC (not_t hx1008) (aC (not_t hx1008) aN))))))))))))))))))))))))))))))))))))))))))))))) (by kernel_rfl) ?_
          refine W_cond (!r6_48) (by kernel_rfl) (fun hb1009 => ?_) (fun hb1009 => ?_)
          · have hx1010 : r6_48 = false := (bnot_t hb1009)
            have h := ib_f h hx1010
            refine W_seq ?_
            refine W_y (s' := LS.mk 68 [(4, aB false)] []) mixed [qn0] ⟨[4], [], [], [], [], [], []⟩ aN (by kernel_rfl) ?_
            refine W_ret ?_
            exact kr [] _ _ (by kernel_rfl) (Option.some.inj h)
          · have hx1010 : r6_48 = true := (bnot_f hb1009)
            have h := ib_t h hx1010
            refine W_skip ?_
            refine W_y (s' := LS.mk 68 [(0, .t (.sl 4 (a0.map c_GApiObj))), (1, .t (.sl 4 (a1.map c_GApiObj))), (12, aI .i64 (a0.length : Int)), (13, aI .i64 (w64 (v0_13_0 + 1)))] []) mixed [qn0, qn0] ⟨[0, 1, 12, 13], [], [], [], [], [], []⟩ aN (by kernel_rfl) ?_
            exact ⟨m, ((w64 (v0_13_0 + 1))), Nat.le_refl _, ⟨Nat.le_of_lt hlt, h⟩, convX_fits (v := ⟨[0, 1, 12, 13], [], [], [], [], [], []⟩) (s' := LS.mk 68 [(0, .t (.sl 4 (a0.map c_GApiObj))), (1, .t (.sl 4 (a1.map c_GApiObj))), (12, aI .i64 (a0.length : Int)), (13, aI .i64 (w64 (v0_13_0 + 1)))] []) (by kernel_rfl)⟩
  · have hx1002 := hb1001
    have h := if_f h hx1002
    refine W_exit ?_
    exact k_x_0 m hlt  _ h (convX_fits (v := ⟨[], [], [], [], [], [], []⟩) (s' := LS.mk 68 [] []) (by kernel_rfl))
set_option maxRecDepth 100000 in
theorem hindcastref11_Same_j1_ok (n : Nat)   (r_ : Bool) (Q' : Exit → St → Prop) (kr : ∀ (ns : List (Nat × Nat × Nat)) (s : LS) (x : Bool), retX Try.prog ns [.tmp 4] s = some (aB x) → x = r_ → Q' .ret s.st)  (h : recN hindcastref11_Same_B n (.j1 ) = some r_) : W Try.prog (subC (bodyC Try.prog 15) [1, 1, 1]) (LS.mk 68 [] []).st Q' := by
  cases n with
  | zero => cases h
  | succ m =>
  have hlt : m < m + 1 := Nat.lt_succ_self m
  replace h : hindcastref11_Same_j1_b (recN hindcastref11_Same_B m)  = some r_ := h
  unfold hindcastref11_Same_j1_b at h
  refine W_seq ?_
  refine W_y (s' := LS.mk 68 [(4, aB true)] []) mixed [qn0] ⟨[4], [], [], [], [], [], []⟩ aN (by kernel_rfl) ?_
  refine W_ret ?_
  exact kr [] _ _ (by kernel_rfl) (Option.some.inj h)
noncomputable def hindcastref11_Same (a0 : (List GApiObj)) (a1 : (List GApiObj)) : Option Bool :=
  (if (a0.length : Int) = (a1.length : Int) then hindcastref11_Same_l0 a0 a1 0 else (some false))
set_option maxRecDepth 100000 in
theorem hindcastref11_Same_ok {a0 : (List GApiObj)} {a1 : (List GApiObj)} {r_ : Bool} (h : hindcastref11_Same a0 a1 = some r_) : R_hindcastref11_Same a0 a1 r_ := by
  unfold hindcastref11_Same at h
  refine fn_pureX (fn := Try.f15) (by kernel_rfl) (c := subC (bodyC Try.prog 15) []) (by kernel_rfl) (by kernel_rfl) (Nat.le_of_ble_eq_true (by kernel_rfl)) ?_
  generalize hQ' : retQ Try.prog Try.f15 (aB r_) = Q'
  have kr : ∀ (ns : List (Nat × Nat × Nat)) (s : LS) (x : Bool), retX Try.prog ns [.tmp 4] s = some (aB x) → x = r_ → Q' .ret s.st := by subst hQ'; intro ns s x hx hq; subst hq; exact ret_ok (fn := Try.f15) ns hx
  change W Try.prog _ (LS.mk 68 [(0, .t (.sl 4 (a0.map c_GApiObj))), (1, .t (.sl 4 (a1.map c_GApiObj)))] []).st Q'
  refine W_seq ?_
  refine W_y (s' := LS.mk 68 [(0, .t (.sl 4 (a0.map c_GApiObj))), (1, .t (.sl 4 (a1.map c_GApiObj)))] []) mixed [qn0] ⟨[0, 1], [], [], [], [], [], []⟩ aN (by kernel_rfl) ?_
  refine W_seq ?_
  refine W_seq ?_
  refine W_y (s' := LS.mk 68 [(0, .t (.sl 4 (a0.map c_GApiObj))), (1, .t (.sl 4 (a1.map c_GApiObj))), (10, aB (!(decide ((a0.length : Int) = (a1.length : Int)))))] []) mixed [qn0, qn (.len a0.length), qn0, qn (.len a1.length), qn0] ⟨[0, 1, 10], [], [], [], [], [], []⟩ (aC (len_obx c_GApiObj a0) (aC (len_obx c_GApiObj a1) aN)) (by kernel_rfl) ?_
  refine W_cond (!(decide ((a0.length : Int) = (a1.length : Int)))) (by kernel_rfl) (fun hb1 => ?_) (fun hb1 => ?_)
  · have hx2 : (decide ((a0.length : Int) = (a1.length : Int))) = false := (bnot_t hb1)
    have h := if_f h hx2
    refine W_seq ?_
    refine W_y (s' := LS.mk 68 [(4, aB false)] []) mixed [qn0] ⟨[4], [], [], [], [], [], []⟩ aN (by kernel_rfl) ?_
    refine W_ret ?_
    exact kr [] _ _ (by kernel_rfl) (Option.some.inj h)
  · have hx2 : (decide ((a0.length : Int) = (a1.length : Int))) = true := (bnot_f hb1)
    have h := if_t h hx2
    refine W_skip ?_
    refine W_seq ?_
    refine W_seq ?_
    refine W_y (s' := LS.mk 68 [(0, .t (.sl 4 (a0.map c_GApiObj))), (1, .t (.sl 4 (a1.map c_GApiObj))), (12, aI .i64 (a0.length : Int)), (13, aI .i64 0)] []) mixed [qn0, qn (.len a0.length), qn0] ⟨[0, 1, 12, 13], [], [], [], [], [], []⟩ (aC (len_obx c_GApiObj a0) aN) (by kernel_rfl) ?_
    refine W_block ?_
    obtain ⟨n, h⟩ := fix_rec h
    exact W_conv (s' := LS.mk 68 [(0, .t (.sl 4 (a0.map c_GApiObj))), (1, .t (.sl 4 (a1.map c_GApiObj))), (12, aI .i64 (a0.length : Int)), (13, aI .i64 0)] []) ⟨[0, 1, 12, 13], [], [], [], [], [], []⟩ (by kernel_rfl) (hindcastref11_Same_l0_ok n a0 a1 0 r_ _ kr (fun q1 hq1  s' h hf => W_pre hf (hindcastref11_Same_j1_ok q1 r_ _ kr h)) h)
def R_hindcastlaw11_great (a0 : (List GHindcastlaw11Op)) (r : Bool) : Prop := FnP Try.prog 17 [.t (.sl 13 (a0.map c_GHindcastlaw11Op))] (aB r)
inductive hindcastlaw11_great_C where
  | l0 (a0 : (List GHindcastlaw11Op)) (v0_3_0 : Int)
  | j1 
abbrev hindcastlaw11_great_C_T : hindcastlaw11_great_C → Type := fun _ => Bool
noncomputable def hindcastlaw11_great_l0_b (g : (i : hindcastlaw11_great_C) → Option (hindcastlaw11_great_C_T i)) (a0 : (List GHindcastlaw11Op)) (v0_3_0 : Int) : Option Bool :=
  (if v0_3_0 < (a0.length : Int) then ((getI a0 v0_3_0).bind fun (x5_2 : GHindcastlaw11Op) => (if (x5_2.Text.length : Int) > 1000 then (some true) else (if (x5_2.Vals.length : Int) > 300 then (some true) else (if x5_2.Kind = 1 then (if x5_2.N > 1000 then (if x5_2.N ≤ 65536 then (some true) else g (.l0 a0 (w64 (v0_3_0 + 1)))) else g (.l0 a0 (w64 (v0_3_0 + 1)))) else g (.l0 a0 (w64 (v0_3_0 + 1))))))) else g (.j1))
noncomputable def hindcastlaw11_great_j1_b (g : (i : hindcastlaw11_great_C) → Option (hindcastlaw11_great_C_T i))  : Option Bool :=
  (some false)
noncomputable def hindcastlaw11_great_B (g : (i : hindcastlaw11_great_C) → Option (hindcastlaw11_great_C_T i)) : (i : hindcastlaw11_great_C) → Option (hindcastlaw11_great_C_T i)
  | .l0 a0 v0_3_0 => hindcastlaw11_great_l0_b g a0 v0_3_0
  | .j1  => hindcastlaw11_great_j1_b g 
theorem hindcastlaw11_great_B_fin (i : hindcastlaw11_great_C) : Fin1 (fun g => hindcastlaw11_great_B g i) := by
  cases i with
  | l0 a0 v0_3_0 => show Fin1 (fun g => hindcastlaw11_great_l0_b g a0 v0_3_0); unfold hindcastlaw11_great_l0_b; repeat (first | refine fin_bind ?_ (fun _ => ?_) | refine fin_ite ?_ ?_ | refine fin_opt ?_ (fun _ => ?_) | exact fin_ask _ | exact fin_const _)
  | j1  => show Fin1 (fun g => hindcastlaw11_great_j1_b g ); unfold hindcastlaw11_great_j1_b; repeat (first | refine fin_bind ?_ (fun _ => ?_) | refine fin_ite ?_ ?_ | refine fin_opt ?_ (fun _ => ?_) | exact fin_ask _ | exact fin_const _)
noncomputable def hindcastlaw11_great_l0 (a0 : (List GHindcastlaw11Op)) (v0_3_0 : Int) : Option Bool := fixD hindcastlaw11_great_B (.l0 a0 v0_3_0)
noncomputable def hindcastlaw11_great_j1  : Option Bool := fixD hindcastlaw11_great_B (.j1 )
theorem hindcastlaw11_great_l0_eq (a0 : (List GHindcastlaw11Op)) (v0_3_0 : Int) : hindcastlaw11_great_l0 a0 v0_3_0 =
  (if v0_3_0 < (a0.length : Int) then ((getI a0 v0_3_0).bind fun (x5_2 : GHindcastlaw11Op) => (if (x5_2.Text.length : Int) > 1000 then (some true) else (if (x5_2.Vals.length : Int) > 300 then (some true) else (if x5_2.Kind = 1 then (if x5_2.N > 1000 then (if x5_2.N ≤ 65536 then (some true) else hindcastlaw11_great_l0 a0 (w64 (v0_3_0 + 1))) else hindcastlaw11_great_l0 a0 (w64 (v0_3_0 + 1))) else hindcastlaw11_great_l0 a0 (w64 (v0_3_0 + 1)))))) else hindcastlaw11_great_j1) := fix_eq hindcastlaw11_great_B_fin _
theorem hindcastlaw11_great_j1_eq  : hindcastlaw11_great_j1  =
  (some false) := fix_eq hindcastlaw11_great_B_fin _
set_option maxRecDepth 100000 in
theorem hindcastlaw11_great_l0_ok (n : Nat)  (a0 : (List GHindcastlaw11Op)) (v0_3_0 : Int) (r_ : Bool) (Q' : Exit → St → Prop) (kr : ∀ (ns : List (Nat × Nat × Nat)) (s : LS) (x : Bool), retX Try.prog ns [.tmp 2] s = some (aB x) → x = r_ → Q' .ret s.st) (k_x_0 : ∀ (q : Nat), q < n → ∀  (s' : LS), recN hindcastlaw11_great_B q (.j1 ) = some r_ → Fits s'.st (LS.mk 53 [] []).st → Q' (.exit 0) s'.st) (h : recN hindcastlaw11_great_B n (.l0 a0 v0_3_0) = some r_) : W Try.prog (subC (bodyC Try.prog 17) [1, 1, 0, 1, 0]) (LS.mk 53 [(0, .t (.sl 13 (a0.map c_GHindcastlaw11Op))), (3, aI .i64 v0_3_0)] []).st Q' := by
  refine W_fix (σ := Int) (fun m x_ => m ≤ n ∧ recN hindcastlaw11_great_B m (.l0 a0 x_) = some r_) (fun x_ => LS.mk 53 [(0, .t (.sl 13 (a0.map c_GHindcastlaw11Op))), (3, aI .i64 x_)] []) (fun x hx => by cases hx.2) (fun _ _ => rfl) ?_ n (v0_3_0) ⟨Nat.le_refl _, h⟩
  clear h
  rintro m v0_3_0 ⟨hlt, h⟩
  replace h : hindcastlaw11_great_l0_b (recN hindcastlaw11_great_B m) a0 v0_3_0 = some r_ := h
  unfold hindcastlaw11_great_l0_b at h
  refine W_seq ?_
  refine W_seq ?_
  refine W_y (s' := LS.mk 53 [(0, .t (.sl 13 (a0.map c_GHindcastlaw11Op))), (3, aI .i64 v0_3_0), (10, aB (decide (v0_3_0 < (a0.length : Int))))] []) mixed [qn0, qn0, qn (.len a0.length), qn0] ⟨[0, 3, 10], [], [], [], [], [], []⟩ (aC (len_obx c_GHindcastlaw11Op a0) aN) (by kernel_rfl) ?_
  refine W_cond (decide (v0_3_0 < (a0.length : Int))) (by kernel_rfl) (fun hb1001 => ?_) (fun hb1001 => ?_)
  · have hx1002 := hb1001
    have h := if_t h hx1002
    refine W_skip ?_
    refine W_seq ?_
    refine W_block ?_
    refine W_seq ?_
    obtain ⟨x5_2, hx5_2, h⟩ := bind_ok h
    refine (Bool.eq_false_or_eq_true (decide ((x5_2.Text.length : Int) > 1000))).elim (fun hb1003 => ?_) (fun hb1003 => ?_)
    · have hx1004 := hb1003
      have h := if_t h hx1004
      refine W_y (s' := LS.mk 53 [(0, .t (.sl 13 (a0.map c_GHindcastlaw11Op))), (3, aI .i64 v0_3_0), (52, aB true)] []) mixed [qn0, qn0, qn (.ix (Int.toNat v0_3_0) (c_GHindcastlaw11Op x5_2)), qn0, qn0, qn0, qn0, qn0, qt0, qt0, qt0, qt0, qt0, qt0, qt0, qn (.dec true), qn0, qn0, qn0, qn0, qn0, qn0, qn0, qn0, qn0, qn0, qn0, qn0, qn0, qn0, qn0, qn0, qn0, qn0, qn0, qn0, qn0, qn0, qn0, qn0] ⟨[0, 3, 52], [], [], [], [], [], []⟩ (aC (ix_obx c_GHindcastlaw11Op hx5_2) (aC hx1004 (aC hx1004 (aC hx1004 (aC hx1004 (aC hx1004 (aC hx1004 (aC hx1004 (aC hx1004 aN))))))))) (by kernel_rfl) ?_
      refine W_cond true (by kernel_rfl) (fun _ => ?_) (fun hb => nomatch ((rfl : true = true).symm.trans hb))
      refine W_seq ?_
      refine W_y (s' := LS.mk 53 [(2, aB true)] []) mixed [qn0] ⟨[2], [], [], [], [], [], []⟩ aN (by kernel_rfl) ?_
      refine W_ret ?_
      exact kr [] _ _ (by kernel_rfl) (Option.some.inj h)
    · have hx1004 := hb1003
      have h := if_f h hx1004
      refine (Bool.eq_false_or_eq_true (decide ((x5_2.Vals.length : Int) > 300))).elim (fun hb1005 => ?_) (fun hb1005 => ?_)
      · have hx1006 := hb1005
        have h := if_t h hx1006
        refine W_y (s' := LS.mk 53 [(0, .t (.sl 13 (a0.map c_GHindcastlaw11Op))), (3, aI .i64 v0_3_0), (52, aB true)] []) mixed [qn0, qn0, qn (.ix (Int.toNat v0_3_0) (c_GHindcastlaw11Op x5_2)), qn0, qn0, qn0, qn0, qn0, qf0, qf0, qf (.ix (Int.toNat v0_3_0) (c_GHindcastlaw11Op x5_2)), qf0, qf0, qf (.len x5_2.Vals.length), qf0, qn (.dec false), qn0, qt0, qt0, qt0, qt0, qt0, qt0, qt0, qn0, qn0, qn0, qn0, qn0, qn0, qt0, qt0, qn0, qn0, qn0, qn0, qn0, qn0, qt0, qn (.dec true)] ⟨[0, 3, 52], [], [], [], [], [], []⟩ (aC (ix_obx c_GHindcastlaw11Op hx5_2) (aC hx1004 (aC hx1004 (aC hx1004 (aC (ix_obx c_GHindcastlaw11Op hx5_2) (aC hx1004 (aC hx1004 (aC hx1004 (aC (len_obx c_GApiValue x5_2.Vals) (aC hx1004 (aC hx1004 (aC hx1006 (aC hx1006 (aC hx1006 (aC hx1006 (aC hx1006 (aC hx1006 (aC hx1006 (aC hx1006 (aC hx1006 (aC hx1006 (aC hx1006 aN)))))))))))))))))))))) (by kernel_rfl) ?_
        refine W_cond true (by kernel_rfl) (fun _ => ?_) (fun hb => nomatch ((rfl : true = true).symm.trans hb))
        refine W_seq ?_
        refine W_y (s' := LS.mk 53 [(2, aB true)] []) mixed [qn0] ⟨[2], [], [], [], [], [], []⟩ aN (by kernel_rfl) ?_
        refine W_ret ?_
        exact kr [] _ _ (by kernel_rfl) (Option.some.inj h)
      · have hx1006 := hb1005
        have h := if_f h hx1006
        refine (Bool.eq_false_or_eq_true (decide (x5_2.Kind = 1))).elim (fun hb1007 => ?_) (fun hb1007 => ?_)
        · have hx1008 := hb1007
          have h := if_t h hx1008
          refine (Bool.eq_false_or_eq_true (decide (x5_2.N > 1000))).elim (fun hb1009 => ?_) (fun hb1009 => ?_)
          · have hx1010 := hb1009
            have h := if_t h hx1010
            refine W_y (s' := LS.mk 53 [(0, .t (.sl 13 (a0.map c_GHindcastlaw11Op))), (3, aI .i64 v0_3_0), (52, aB (decide (x5_2.N ≤ 65536)))] []) mixed [qn0, qn0, qn (.ix (Int.toNat v0_3_0) (c_GHindcastlaw11Op x5_2)), qn0, qn0, qn0, qn0, qn0, qf0, qf0, qf (.ix (Int.toNat v0_3_0) (c_GHindcastlaw11Op x5_2)), qf0, qf0, qf (.len x5_2.Vals.length), qf0, qn (.dec false), qn0, qf0, qf0, qf (.ix (Int.toNat v0_3_0) (c_GHindcastlaw11Op x5_2)), qf0, qf0, qf0, qf0, qt0, qt0, qt (.ix (Int.toNat v0_3_0) (c_GHindcastlaw11Op x5_2)), qt0, qt0, qt0, qf (.dec true), qf0, qt0, qt0, qt (.ix (Int.toNat v0_3_0) (c_GHindcastlaw11Op x5_2)), qt0, qt0, qt0, qf (.dec true), qn (.dec false)] ⟨[0, 3, 52], [], [], [], [], [], []⟩ (aC (ix_obx c_GHindcastlaw11Op hx5_2) (aC hx1004 (aC hx1004 (aC hx1004 (aC (ix_obx c_GHindcastlaw11Op hx5_2) (aC hx1004 (aC hx1004 (aC hx1004 (aC (len_obx c_GApiValue x5_2.Vals) (aC hx1004 (aC hx1004 (aC hx1006 (aC hx1006 (aC hx1006 (aC (ix_obx c_GHindcastlaw11Op hx5_2) (aC hx1006 (aC hx1006 (aC hx1006 (aC hx1006 (aC hx1008 (aC hx1008 (aC hx1008 (aC (ix_obx c_GHindcastlaw11Op hx5_2) (aC hx1008 (aC hx1008 (aC hx1008 (aC hx1006 (aC hx1008 (aC hx1006 (aC hx1010 (aC hx1010 (aC hx1010 (aC (ix_obx c_GHindcastlaw11Op hx5_2) (aC hx1010 (aC hx1010 (aC hx1010 (aC hx1006 (aC hx1010 (aC hx1006 aN))))))))))))))))))))))))))))))))))))))) (by kernel_rfl) ?_
            refine W_cond (decide (x5_2.N ≤ 65536)) (by kernel_rfl) (fun hb1011 => ?_) (fun hb1011 => ?_)
            · have hx1012 := hb1011
              have h := if_t h hx1012
              refine W_seq ?_
              refine W_y (s' := LS.mk 53 [(2, aB true)] []) mixed [qn0] ⟨[2], [], [], [], [], [], []⟩ aN (by kernel_rfl) ?_
              refine W_ret ?_
              exact kr [] _ _ (by kernel_rfl) (Option.some.inj h)
            · have hx1012 := hb1011
              have h := if_f h hx1012
              refine W_skip ?_
              refine W_y (s' := LS.mk 53 [(0, .t (.sl 13 (a0.map c_GHindcastlaw11Op))), (3, aI .i64 (w64 (v0_3_0 + 1)))] []) mixed [qn0, qn0, qn0] ⟨[0, 3], [], [], [], [], [], []⟩ aN (by kernel_rfl) ?_
              exact ⟨m, ((w64 (v0_3_0 + 1))), Nat.le_refl _, ⟨Nat.le_of_lt hlt, h⟩, convX_fits (v := ⟨[0, 3], [], [], [], [], [], []⟩) (s' := LS.mk 53 [(0, .t (.sl 13 (a0.map c_GHindcastlaw11Op))), (3, aI .i64 (w64 (v0_3_0 + 1)))] []) (by kernel_rfl)⟩
          · have hx1010 := hb1009
            have h := if_f h hx1010
            refine W_y (s' := LS.mk 53 [(0, .t (.sl 13 (a0.map c_GHindcastlaw11Op))), (3, aI .i64 v0_3_0), (52, aB false)] []) mixed [qn0, qn0, qn (.ix (Int.toNat v0_3_0) (c_GHindcastlaw11Op x5_2)), qn0, qn0, qn0, qn0, qn0, qf0, qf0, qf (.ix (Int.toNat v0_3_0) (c_GHindcastlaw11Op x5_2)), qf0, qf0, qf (.len x5_2.Vals.length), qf0, qn (.dec false), qn0, qf0, qf0, qf (.ix (Int.toNat v0_3_0) (c_GHindcastlaw11Op x5_2)), qf0, qf0, qf0, qf0, qt0, qt0, qt (.ix (Int.toNat v0_3_0) (c_GHindcastlaw11Op x5_2)), qt0, qt0, qt0, qf (.dec true), qf0, qf0, qf0, qf0, qf0, qf0, qf0, qf (.dec false), qn (.dec false)] ⟨[0, 3, 52], [], [], [], [], [], []⟩ (aC (ix_obx c_GHindcastlaw11Op hx5_2) (aC hx1004 (aC hx1004 (aC hx1004 (aC (ix_obx c_GHindcastlaw11Op hx5_2) (aC hx1004 (aC hx1004 (aC hx1004 (aC (len_obx c_GApiValue x5_2.Vals) (aC hx1004 (aC hx1004 (aC hx1006 (aC hx1006 (aC hx1006 (aC (ix_obx c_GHindcastlaw11Op hx5_2) (aC hx1006 (aC hx1006 (aC hx1006 (aC hx1006 (aC hx1008 (aC hx1008 (aC hx1008 (aC (ix_obx c_GHindcastlaw11Op hx5_2) (aC hx1008 (aC hx1008 (aC hx1008 (aC hx1006 (aC hx1008 (aC hx1006 (aC hx1010 (aC hx1010 (aC hx1010 (aC hx1010 (aC hx1010 (aC hx1010 (aC hx1006 (aC hx1010 (aC hx1006 aN)))))))))))))))))))))))))))))))))))))) (by kernel_rfl) ?_
            refine W_cond false (by kernel_rfl) (fun hb => nomatch ((rfl : false = false).symm.trans hb)) (fun _ => ?_)
            refine W_skip ?_
            refine W_y (s' := LS.mk 53 [(0, .t (.sl 13 (a0.map c_GHindcastlaw11Op))), (3, aI .i64 (w64 (v0_3_0 + 1)))] []) mixed [qn0, qn0, qn0] ⟨[0, 3], [], [], [], [], [], []⟩ aN (by kernel_rfl) ?_
            exact ⟨m, ((w64 (v0_3_0 + 1))), Nat.le_refl _, ⟨Nat.le_of_lt hlt, h⟩, convX_fits (v := ⟨[0, 3], [], [], [], [], [], []⟩) (s' := LS.mk 53 [(0, .t (.sl 13 (a0.map c_GHindcastlaw11Op))), (3, aI .i64 (w64 (v0_3_0 + 1)))] []) (by kernel_rfl)⟩
        · have hx1008 := hb1007
          have h := if_f h hx1008
          refine W_y (s' := LS.mk 53 [(0, .t (.sl 13 (a0.map c_GHindcastlaw11Op))), (3, aI .i64 v0_3_0), (52, aB false)] []) mixed [qn0, qn0, qn (.ix (Int.toNat v0_3_0) (c_GHindcastlaw11Op x5_2)), qn0, qn0, qn0, qn0, qn0, qf0, qf0, qf (.ix (Int.toNat v0_3_0) (c_GHindcastlaw11Op x5_2)), qf0, qf0, qf (.len x5_2.Vals.length), qf0, qn (.dec false), qn0, qf0, qf0, qf (.ix (Int.toNat v0_3_0) (c_GHindcastlaw11Op x5_2)), qf0, qf0, qf0, qf0, qf0, qf0, qf0, qf0, qf0, qf0, qf (.dec false), qf0, qn0, qn0, qn0, qn0, qn0, qn0, qf0, qn (.dec false)] ⟨[0, 3, 52], [], [], [], [], [], []⟩ (aC (ix_obx c_GHindcastlaw11Op hx5_2) (aC hx1004 (aC hx1004 (aC hx1004 (aC (ix_obx c_GHindcastlaw11Op hx5_2) (aC hx1004 (aC hx1004 (aC hx1004 (aC (len_obx c_GApiValue x5_2.Vals) (aC hx1004 (aC hx1004 (aC hx1006 (aC hx1006 (aC hx1006 (aC (ix_obx c_GHindcastlaw11Op hx5_2) (aC hx1006 (aC hx1006 (aC hx1006 (aC hx1006 (aC hx1008 (aC hx1008 (aC hx1008 (aC hx1008 (aC hx1008 (aC hx1008 (aC hx1006 (aC hx1008 (aC hx1006 (aC hx1006 (aC hx1006 aN)))))))))))))))))))))))))))))) (by kernel_rfl) ?_
          refine W_cond false (by kernel_rfl) (fun hb => nomatch ((rfl : false = false).symm.trans hb)) (fun _ => ?_)
          refine W_skip ?_
          refine W_y (s' := LS.mk 53 [(0, .t (.sl 13 (a0.map c_GHindcastlaw11Op))), (3, aI .i64 (w64 (v0_3_0 + 1)))] []) mixed [qn0, qn0, qn0] ⟨[0, 3], [], [], [], [], [], []⟩ aN (by kernel_rfl) ?_
          exact ⟨m, ((w64 (v0_3_0 + 1))), Nat.le_refl _, ⟨Nat.le_of_lt hlt, h⟩, convX_fits (v := ⟨[0, 3], [], [], [], [], [], []⟩) (s' := LS.mk 53 [(0, .t (.sl 13 (a0.map c_GHindcastlaw11Op))), (3, aI .i64 (w64 (v0_3_0 + 1)))] []) (by kernel_rfl)⟩
  · have hx1002 := hb1001
    have h := if_f h hx1002
    refine W_exit ?_
    exact k_x_0 m hlt  _ h (convX_fits (v := ⟨[], [], [], [], [], [], []⟩) (s' := LS.mk 53 [] []) (by kernel_rfl))
set_option maxRecDepth 100000 in
theorem hindcastlaw11_great_j1_ok (n : Nat)   (r_ : Bool) (Q' : Exit → St → Prop) (kr : ∀ (ns : List (Nat × Nat × Nat)) (s : LS) (x : Bool), retX Try.prog ns [.tmp 2] s = some (aB x) → x = r_ → Q' .ret s.st)  (h : recN hindcastlaw11_great_B n (.j1 ) = some r_) : W Try.prog (subC (bodyC Try.prog 17) [1, 1, 1]) (LS.mk 53 [] []).st Q' := by
  cases n with
  | zero => cases h
  | succ m =>
  have hlt : m < m + 1 := Nat.lt_succ_self m
  replace h : hindcastlaw11_great_j1_b (recN hindcastlaw11_great_B m)  = some r_ := h
  unfold hindcastlaw11_great_j1_b at h
  refine W_seq ?_
  refine W_y (s' := LS.mk 53 [(2, aB false)] []) mixed [qn0] ⟨[2], [], [], [], [], [], []⟩ aN (by kernel_rfl) ?_
  refine W_ret ?_
  exact kr [] _ _ (by kernel_rfl) (Option.some.inj h)
noncomputable def hindcastlaw11_great (a0 : (List GHindcastlaw11Op)) : Option Bool :=
  (if (a0.length : Int) > 60 then (some true) else hindcastlaw11_great_l0 a0 0)
set_option maxRecDepth 100000 in
theorem hindcastlaw11_great_ok {a0 : (List GHindcastlaw11Op)} {r_ : Bool} (h : hindcastlaw11_great a0 = some r_) : R_hindcastlaw11_great a0 r_ := by
  unfold hindcastlaw11_great at h
  refine fn_pureX (fn := Try.f17) (by kernel_rfl) (c := subC (bodyC Try.prog 17) []) (by kernel_rfl) (by kernel_rfl) (Nat.le_of_ble_eq_true (by kernel_rfl)) ?_
  generalize hQ' : retQ Try.prog Try.f17 (aB r_) = Q'
  have kr : ∀ (ns : List (Nat × Nat × Nat)) (s : LS) (x : Bool), retX Try.prog ns [.tmp 2] s = some (aB x) → x = r_ → Q' .ret s.st := by subst hQ'; intro ns s x hx hq; subst hq; exact ret_ok (fn := Try.f17) ns hx
  change W Try.prog _ (LS.mk 53 [(0, .t (.sl 13 (a0.map c_GHindcastlaw11Op)))] []).st Q'
  refine W_seq ?_
  refine W_y (s' := LS.mk 53 [(0, .t (.sl 13 (a0.map c_GHindcastlaw11Op)))] []) mixed [qn0] ⟨[0], [], [], [], [], [], []⟩ aN (by kernel_rfl) ?_
  refine W_seq ?_
  refine W_seq ?_
  refine W_y (s' := LS.mk 53 [(0, .t (.sl 13 (a0.map c_GHindcastlaw11Op))), (6, aB (decide ((a0.length : Int) > 60)))] []) mixed [qn0, qn (.len a0.length), qn0] ⟨[0, 6], [], [], [], [], [], []⟩ (aC (len_obx c_GHindcastlaw11Op a0) aN) (by kernel_rfl) ?_
  refine W_cond (decide ((a0.length : Int) > 60)) (by kernel_rfl) (fun hb1 => ?_) (fun hb1 => ?_)
  · have hx2 := hb1
    have h := if_t h hx2
    refine W_seq ?_
    refine W_y (s' := LS.mk 53 [(2, aB true)] []) mixed [qn0] ⟨[2], [], [], [], [], [], []⟩ aN (by kernel_rfl) ?_
    refine W_ret ?_
    exact kr [] _ _ (by kernel_rfl) (Option.some.inj h)
  · have hx2 := hb1
    have h := if_f h hx2
    refine W_skip ?_
    refine W_seq ?_
    refine W_seq ?_
    refine W_y (s' := LS.mk 53 [(0, .t (.sl 13 (a0.map c_GHindcastlaw11Op))), (3, aI .i64 0)] []) mixed [qn0] ⟨[0, 3], [], [], [], [], [], []⟩ aN (by kernel_rfl) ?_
    refine W_block ?_
    obtain ⟨n, h⟩ := fix_rec h
    exact W_conv (s' := LS.mk 53 [(0, .t (.sl 13 (a0.map c_GHindcastlaw11Op))), (3, aI .i64 0)] []) ⟨[0, 3], [], [], [], [], [], []⟩ (by kernel_rfl) (hindcastlaw11_great_l0_ok n a0 0 r_ _ kr (fun q1 hq1  s' h hf => W_pre hf (hindcastlaw11_great_j1_ok q1 r_ _ kr h)) h)
def R_hindcastref11_Cost (a0 : GApiObj) (r : Int) : Prop := FnP Try.prog 21 [e_GApiObj a0] (aI .i64 r)
noncomputable def hindcastref11_Cost (a0 : GApiObj) : Option Int :=
  (if a0.Kind = 3 then (if (Int.tmod (a0.Text.length : Int) 8) > 0 then (some (w64 ((w64 ((w64 (Int.tdiv (a0.Text.length : Int) 8)) + 1)) + 1))) else (some (w64 ((w64 (Int.tdiv (a0.Text.length : Int) 8)) + 1)))) else (some (w64 ((a0.Vals.length : Int) + 1))))
set_option maxRecDepth 100000 in
theorem hindcastref11_Cost_ok {a0 : GApiObj} {r_ : Int} (h : hindcastref11_Cost a0 = some r_) : R_hindcastref11_Cost a0 r_ := by
  unfold hindcastref11_Cost at h
  refine fn_pureX (fn := Try.f21) (by kernel_rfl) (c := subC (bodyC Try.prog 21) []) (by kernel_rfl) (by kernel_rfl) (Nat.le_of_ble_eq_true (by kernel_rfl)) ?_
  generalize hQ' : retQ Try.prog Try.f21 (aI .i64 r_) = Q'
  have kr : ∀ (ns : List (Nat × Nat × Nat)) (s : LS) (x : Int), retX Try.prog ns [.tmp 2] s = some (aI .i64 x) → x = r_ → Q' .ret s.st := by subst hQ'; intro ns s x hx hq; subst hq; exact ret_ok (fn := Try.f21) ns hx
  change W Try.prog _ (LS.mk 24 [(0, e_GApiObj a0)] []).st Q'
  refine W_seq ?_
  refine W_y (s' := LS.mk 24 [(1, .ptr 1 0)] [(1, some (.box 27 [aI .u8 a0.Kind, aI .i64 a0.Of, aS a0.Text, .t (.sl 4 (a0.Vals.map c_GApiValue))]))]) mixed [qn0, qn0] ⟨[1], [], [1], [], [], [], []⟩ aN (by kernel_rfl) ?_
  refine W_seq ?_
  refine W_seq ?_
  refine W_y (s' := LS.mk 24 [(1, .ptr 1 0), (6, aB (decide (a0.Kind = 3)))] [(1, some (.box 27 [aI .u8 a0.Kind, aI .i64 a0.Of, aS a0.Text, .t (.sl 4 (a0.Vals.map c_GApiValue))]))]) mixed [qn0, qn0, qn0] ⟨[1, 6], [], [1], [], [], [], []⟩ aN (by kernel_rfl) ?_
  refine W_cond (decide (a0.Kind = 3)) (by kernel_rfl) (fun hb1 => ?_) (fun hb1 => ?_)
  · have hx2 := hb1
    have h := if_t h hx2
    refine W_seq ?_
    refine W_y (s' := LS.mk 24 [(1, .ptr 1 0), (3, aI .i64 (w64 (Int.tdiv (a0.Text.length : Int) 8)))] [(1, some (.box 27 [aI .u8 a0.Kind, aI .i64 a0.Of, aS a0.Text, .t (.sl 4 (a0.Vals.map c_GApiValue))]))]) mixed [qn0, qn0, qn0, qn0, qn0] ⟨[1, 3], [], [1], [], [], [], []⟩ aN (by kernel_rfl) ?_
    refine W_seq ?_
    refine W_seq ?_
    refine W_y (s' := LS.mk 24 [(3, aI .i64 (w64 (Int.tdiv (a0.Text.length : Int) 8))), (15, aB (decide ((Int.tmod (a0.Text.length : Int) 8) > 0)))] []) mixed [qn0, qn0, qn0, qn0, qn0] ⟨[3, 15], [], [], [], [], [], []⟩ aN (by kernel_rfl) ?_
    refine W_cond (decide ((Int.tmod (a0.Text.length : Int) 8) > 0)) (by kernel_rfl) (fun hb3 => ?_) (fun hb3 => ?_)
    · have hx4 := hb3
      have h := if_t h hx4
      refine W_y (s' := LS.mk 24 [(3, aI .i64 (w64 ((w64 (Int.tdiv (a0.Text.length : Int) 8)) + 1)))] []) mixed [qn0, qn0, qn0] ⟨[3], [], [], [], [], [], []⟩ aN (by kernel_rfl) ?_
      refine W_seq ?_
      refine W_y (s' := LS.mk 24 [(2, aI .i64 (w64 ((w64 ((w64 (Int.tdiv (a0.Text.length : Int) 8)) + 1)) + 1)))] []) mixed [qn0, qn0, qn0] ⟨[2], [], [], [], [], [], []⟩ aN (by kernel_rfl) ?_
      refine W_ret ?_
      exact kr [] _ _ (by kernel_rfl) (Option.some.inj h)
    · have hx4 := hb3
      have h := if_f h hx4
      refine W_skip ?_
      refine W_seq ?_
      refine W_y (s' := LS.mk 24 [(2, aI .i64 (w64 ((w64 (Int.tdiv (a0.Text.length : Int) 8)) + 1)))] []) mixed [qn0, qn0, qn0] ⟨[2], [], [], [], [], [], []⟩ aN (by kernel_rfl) ?_
      refine W_ret ?_
      exact kr [] _ _ (by kernel_rfl) (Option.some.inj h)
  · have hx2 := hb1
    have h := if_f h hx2
    refine W_skip ?_
    refine W_seq ?_
    refine W_y (s' := LS.mk 24 [(2, aI .i64 (w64 ((a0.Vals.length : Int) + 1)))] []) mixed [qn0, qn0, qn (.len a0.Vals.length), qn0, qn0] ⟨[2], [], [], [], [], [], []⟩ (aC (len_obx c_GApiValue a0.Vals) aN) (by kernel_rfl) ?_
    refine W_ret ?_
    exact kr [] _ _ (by kernel_rfl) (Option.some.inj h)
def R_hindcastref11_H_Add (a0 : GHindcastref11H) (a1 : GApiObj) (r : (GApiValue × Bool × GHindcastref11H)) : Prop := FnP Try.prog 50 [e_GHindcastref11H a0, e_GApiObj a1] (.tup [e_GApiValue r.1, aB r.2.1, e_GHindcastref11H r.2.2])
noncomputable def hindcastref11_H_Add (a0 : GHindcastref11H) (a1 : GApiObj) : Option (GApiValue × Bool × GHindcastref11H) :=
  ((hindcastref11_Cost a1).bind fun (r1_1 : Int) => (if (w64 (a0.Cells + r1_1)) > a0.Room then (some ((GApiValue.mk 0 0 0 0), false, a0)) else (if AppOb 56 (([] : List GApiObj).length + a0.L.length) then (if AppOb 56 ((([] : List GApiObj) ++ a0.L).length + ([a1] : List GApiObj).length) then (some ((GApiValue.mk a1.Kind (((([] : List GApiObj) ++ a0.L) ++ ([a1] : List GApiObj)).length : Int) 0 0), true, (GHindcastref11H.mk a0.Room (w64 (a0.Cells + r1_1)) ((([] : List GApiObj) ++ a0.L) ++ ([a1] : List GApiObj))))) else none) else none)))
set_option maxRecDepth 100000 in
theorem hindcastref11_H_Add_ok {a0 : GHindcastref11H} {a1 : GApiObj} {r_ : (GApiValue × Bool × GHindcastref11H)} (h : hindcastref11_H_Add a0 a1 = some r_) : R_hindcastref11_H_Add a0 a1 r_ := by
  unfold hindcastref11_H_Add at h
  refine fn_pureX (fn := Try.f50) (by kernel_rfl) (c := subC (bodyC Try.prog 50) []) (by kernel_rfl) (by kernel_rfl) (Nat.le_of_ble_eq_true (by kernel_rfl)) ?_
  generalize hQ' : retQ Try.prog Try.f50 (.tup [e_GApiValue r_.1, aB r_.2.1, e_GHindcastref11H r_.2.2]) = Q'
  have kr : ∀ (ns : List (Nat × Nat × Nat)) (s : LS) (x : (GApiValue × Bool × GHindcastref11H)), retX Try.prog ns [.cell 4 46, .tmp 5, .cell 6 33] s = some (.tup [e_GApiValue x.1, aB x.2.1, e_GHindcastref11H x.2.2]) → x = r_ → Q' .ret s.st := by subst hQ'; intro ns s x hx hq; subst hq; exact ret_ok (fn := Try.f50) ns hx
  change W Try.prog _ (LS.mk 42 [(0, e_GHindcastref11H a0), (1, e_GApiObj a1)] []).st Q'
  refine W_seq ?_
  refine W_y (s' := LS.mk 42 [(2, .ptr 2 0), (3, .ptr 3 0), (4, .ptr 4 0), (6, .ptr 6 0)] [(2, some (.box 33 [aI .i64 a0.Room, aI .i64 a0.Cells, .t (.sl 4 (a0.L.map c_GApiObj))])), (3, some (.box 27 [aI .u8 a1.Kind, aI .i64 a1.Of, aS a1.Text, .t (.sl 4 (a1.Vals.map c_GApiValue))])), (4, some (.box 46 [aI .u8 0, aI .i64 0, aI .i64 0, aI .i64 0])), (6, some (.box 33 [aI .i64 0, aI .i64 0, aNil]))]) mixed [qn0, qn0, qn0, qn0, qn0] ⟨[2, 3, 4, 6], [], [2, 3, 4, 6], [], [], [], []⟩ aN (by kernel_rfl) ?_
  refine W_seq ?_
  obtain ⟨r1_1, hr1_1, h⟩ := bind_ok h
  have hr1_1 := hindcastref11_Cost_ok hr1_1
  refine W_y (s' := LS.mk 42 [(2, .ptr 2 0), (3, .ptr 3 0), (4, .ptr 4 0), (6, .ptr 6 0), (7, aI .i64 r1_1)] [(2, some (.box 33 [aI .i64 a0.Room, aI .i64 a0.Cells, .t (.sl 4 (a0.L.map c_GApiObj))])), (3, some (.box 27 [aI .u8 a1.Kind, aI .i64 a1.Of, aS a1.Text, .t (.sl 4 (a1.Vals.map c_GApiValue))])), (4, some (.box 46 [aI .u8 0, aI .i64 0, aI .i64 0, aI .i64 0])), (6, some (.box 33 [aI .i64 0, aI .i64 0, aNil]))]) mixed [qn0, qn (.call [] (aI .i64 r1_1)), qn0] ⟨[2, 3, 4, 6, 7], [], [2, 3, 4, 6], [], [], [], []⟩ (aC hr1_1 aN) (by kernel_rfl) ?_
  refine W_seq ?_
  refine W_seq ?_
  refine W_y (s' := LS.mk 42 [(2, .ptr 2 0), (3, .ptr 3 0), (4, .ptr 4 0), (6, .ptr 6 0), (7, aI .i64 r1_1), (17, aB (decide ((w64 (a0.Cells + r1_1)) > a0.Room)))] [(2, some (.box 33 [aI .i64 a0.Room, aI .i64 a0.Cells, .t (.sl 4 (a0.L.map c_GApiObj))])), (3, some (.box 27 [aI .u8 a1.Kind, aI .i64 a1.Of, aS a1.Text, .t (.sl 4 (a1.Vals.map c_GApiValue))])), (4, some (.box 46 [aI .u8 0, aI .i64 0, aI .i64 0, aI .i64 0])), (6, some (.box 33 [aI .i64 0, aI .i64 0, aNil]))]) mixed [qn0, qn0, qn0, qn0, qn0, qn0, qn0] ⟨[2, 3, 4, 6, 7, 17], [], [2, 3, 4, 6], [], [], [], []⟩ aN (by kernel_rfl) ?_
  refine W_cond (decide ((w64 (a0.Cells + r1_1)) > a0.Room)) (by kernel_rfl) (fun hb1 => ?_) (fun hb1 => ?_)
  · have hx2 := hb1
    have h := if_t h hx2
    refine W_seq ?_
    refine W_y (s' := LS.mk 42 [(4, .ptr 4 0), (5, aB false), (6, .ptr 6 0)] [(4, some (.box 46 [aI .u8 0, aI .i64 0, aI .i64 0, aI .i64 0])), (6, some (.box 33 [aI .i64 a0.Room, aI .i64 a0.Cells, .t (.sl 4 (a0.L.map c_GApiObj))]))]) mixed [qn0, qn0, qn0, qn0, qn0] ⟨[4, 5, 6], [], [4, 6], [], [], [], []⟩ aN (by kernel_rfl) ?_
    refine W_ret ?_
    exact kr [] _ _ (by kernel_rfl) (Option.some.inj h)
  · have hx2 := hb1
    have h := if_f h hx2
    refine W_skip ?_
    refine W_seq ?_
    refine W_y (s' := LS.mk 42 [(2, .ptr 2 0), (3, .ptr 3 0), (4, .ptr 4 0), (6, .ptr 6 0), (7, aI .i64 r1_1), (8, .ref 1008)] [(2, some (.box 33 [aI .i64 a0.Room, aI .i64 a0.Cells, .t (.sl 4 (a0.L.map c_GApiObj))])), (3, some (.box 27 [aI .u8 a1.Kind, aI .i64 a1.Of, aS a1.Text, .t (.sl 4 (a1.Vals.map c_GApiValue))])), (4, some (.box 46 [aI .u8 0, aI .i64 0, aI .i64 0, aI .i64 0])), (6, some (.box 33 [aI .i64 0, aI .i64 0, aNil])), (1008, some (.row 27 4 (([] : List GApiObj).map c_GApiObj)))]) mixed [qn0, qn0] ⟨[2, 3, 4, 6, 7, 8], [], [2, 3, 4, 6], [], [(20, 1008)], [], []⟩ aN (by kernel_rfl) ?_
    refine W_seq ?_
    obtain ⟨hd3, h⟩ := ite_ok h
    refine W_y (s' := LS.mk 42 [(2, .ptr 2 0), (3, .ptr 3 0), (4, .ptr 4 0), (6, .ptr 6 0), (7, aI .i64 r1_1), (8, .ref 1008)] [(2, some (.box 33 [aI .i64 a0.Room, aI .i64 a0.Cells, .t (.sl 4 (a0.L.map c_GApiObj))])), (3, some (.box 27 [aI .u8 a1.Kind, aI .i64 a1.Of, aS a1.Text, .t (.sl 4 (a1.Vals.map c_GApiValue))])), (4, some (.box 46 [aI .u8 0, aI .i64 0, aI .i64 0, aI .i64 0])), (6, some (.box 33 [aI .i64 0, aI .i64 0, aNil])), (1008, some (.row 27 4 ((([] : List GApiObj) ++ a0.L).map c_GApiObj)))]) mixed [qn0, qn0, qn0, qn (.rows ((([] : List GApiObj) ++ a0.L).map c_GApiObj)), qn0] ⟨[2, 3, 4, 6, 7, 8], [], [2, 3, 4, 6], [], [(24, 1008)], [], []⟩ (aC (ap_obx c_GApiObj hd3) (aC (app_obx c_GApiObj ([] : List GApiObj) a0.L) aN)) (by kernel_rfl) ?_
    refine W_seq ?_
    obtain ⟨hd4, h⟩ := ite_ok h
    refine W_y (s' := LS.mk 42 [(2, .ptr 2 0), (3, .ptr 3 0), (4, .ptr 4 0), (6, .ptr 6 0), (7, aI .i64 r1_1), (8, .ref 1008)] [(2, some (.box 33 [aI .i64 a0.Room, aI .i64 a0.Cells, .t (.sl 4 (a0.L.map c_GApiObj))])), (3, some (.box 27 [aI .u8 a1.Kind, aI .i64 a1.Of, aS a1.Text, .t (.sl 4 (a1.Vals.map c_GApiValue))])), (4, some (.box 46 [aI .u8 0, aI .i64 0, aI .i64 0, aI .i64 0])), (6, some (.box 33 [aI .i64 0, aI .i64 0, aNil])), (1008, some (.row 27 4 (((([] : List GApiObj) ++ a0.L) ++ ([a1] : List GApiObj)).map c_GApiObj)))]) mixed [qn0, qn0, qn0, qn (.rows (((([] : List GApiObj) ++ a0.L) ++ ([a1] : List GApiObj)).map c_GApiObj)), qn0] ⟨[2, 3, 4, 6, 7, 8], [], [2, 3, 4, 6], [], [(28, 1008)], [], []⟩ (aC (ap_obx c_GApiObj hd4) (aC (app_obx c_GApiObj (([] : List GApiObj) ++ a0.L) ([a1] : List GApiObj)) aN)) (by kernel_rfl) ?_
    refine W_seq ?_
    refine W_y (s' := LS.mk 42 [(2, .ptr 2 0), (3, .ptr 3 0), (4, .ptr 4 0), (6, .ptr 6 0), (7, aI .i64 r1_1), (8, .ref 1008)] [(2, some (.box 33 [aI .i64 a0.Room, aI .i64 a0.Cells, .ref 1008])), (3, some (.box 27 [aI .u8 a1.Kind, aI .i64 a1.Of, aS a1.Text, .t (.sl 4 (a1.Vals.map c_GApiValue))])), (4, some (.box 46 [aI .u8 0, aI .i64 0, aI .i64 0, aI .i64 0])), (6, some (.box 33 [aI .i64 0, aI .i64 0, aNil])), (1008, some (.row 27 4 (((([] : List GApiObj) ++ a0.L) ++ ([a1] : List GApiObj)).map c_GApiObj)))]) mixed [qn0, qn0, qn0] ⟨[2, 3, 4, 6, 7, 8], [], [2, 3, 4, 6], [], [(1008, 1008)], [], []⟩ aN (by kernel_rfl) ?_
    refine W_seq ?_
    refine W_y (s' := LS.mk 42 [(2, .ptr 2 0), (3, .ptr 3 0), (4, .ptr 4 0), (6, .ptr 6 0), (8, .ref 1008)] [(2, some (.box 33 [aI .i64 a0.Room, aI .i64 (w64 (a0.Cells + r1_1)), .ref 1008])), (3, some (.box 27 [aI .u8 a1.Kind, aI .i64 a1.Of, aS a1.Text, .t (.sl 4 (a1.Vals.map c_GApiValue))])), (4, some (.box 46 [aI .u8 0, aI .i64 0, aI .i64 0, aI .i64 0])), (6, some (.box 33 [aI .i64 0, aI .i64 0, aNil])), (1008, some (.row 27 4 (((([] : List GApiObj) ++ a0.L) ++ ([a1] : List GApiObj)).map c_GApiObj)))]) mixed [qn0, qn0, qn0, qn0, qn0, qn0] ⟨[2, 3, 4, 6, 8], [], [2, 3, 4, 6], [], [(1008, 1008)], [], []⟩ aN (by kernel_rfl) ?_
    refine W_seq ?_
    refine W_y (s' := LS.mk 42 [(4, .ptr 4 0), (5, aB true), (6, .ptr 6 0)] [(4, some (.box 46 [aI .u8 a1.Kind, aI .i64 (((([] : List GApiObj) ++ a0.L) ++ ([a1] : List GApiObj)).length : Int), aI .i64 0, aI .i64 0])), (6, some (.box 33 [aI .i64 a0.Room, aI .i64 (w64 (a0.Cells + r1_1)), .ref 100602])), (100602, some (.row 27 4 (((([] : List GApiObj) ++ a0.L) ++ ([a1] : List GApiObj)).map c_GApiObj)))]) mixed [qn0, qn0, qn0, qn (.len ((([] : List GApiObj) ++ a0.L) ++ ([a1] : List GApiObj)).length), qn0, qn0, qn0, qn0, qn0] ⟨[4, 5, 6], [], [4, 6], [], [(1008, 100602)], [], []⟩ (aC (len_obx c_GApiObj ((([] : List GApiObj) ++ a0.L) ++ ([a1] : List GApiObj))) aN) (by kernel_rfl) ?_
    refine W_ret ?_
    exact kr [] _ _ (by kernel_rfl) (Option.some.inj h)
def R_hindcastref11_H_Str (a0 : GHindcastref11H) (a1 : (List UInt8)) (r : (GApiValue × Bool × GHindcastref11H)) : Prop := FnP Try.prog 35 [e_GHindcastref11H a0, aS a1] (.tup [e_GApiValue r.1, aB r.2.1, e_GHindcastref11H r.2.2])
noncomputable def hindcastref11_H_Str (a0 : GHindcastref11H) (a1 : (List UInt8)) : Option (GApiValue × Bool × GHindcastref11H) :=
  (if a1 = ([] : List UInt8) then (some ((GApiValue.mk 3 0 0 0), true, a0)) else ((hindcastref11_H_Add a0 (GApiObj.mk 3 0 a1 ([] : List GApiValue))).bind fun (r3_3 : (GApiValue × Bool × GHindcastref11H)) => (some (r3_3.1, r3_3.2.1, r3_3.2.2))))
set_option maxRecDepth 100000 in
theorem hindcastref11_H_Str_ok {a0 : GHindcastref11H} {a1 : (List UInt8)} {r_ : (GApiValue × Bool × GHindcastref11H)} (h : hindcastref11_H_Str a0 a1 = some r_) : R_hindcastref11_H_Str a0 a1 r_ := by
  unfold hindcastref11_H_Str at h
  refine fn_pureX (fn := Try.f35) (by kernel_rfl) (c := subC (bodyC Try.prog 35) []) (by kernel_rfl) (by kernel_rfl) (Nat.le_of_ble_eq_true (by kernel_rfl)) ?_
  generalize hQ' : retQ Try.prog Try.f35 (.tup [e_GApiValue r_.1, aB r_.2.1, e_GHindcastref11H r_.2.2]) = Q'
  have kr : ∀ (ns : List (Nat × Nat × Nat)) (s : LS) (x : (GApiValue × Bool × GHindcastref11H)), retX Try.prog ns [.cell 4 46, .tmp 5, .cell 6 33] s = some (.tup [e_GApiValue x.1, aB x.2.1, e_GHindcastref11H x.2.2]) → x = r_ → Q' .ret s.st := by subst hQ'; intro ns s x hx hq; subst hq; exact ret_ok (fn := Try.f35) ns hx
  change W Try.prog _ (LS.mk 18 [(0, e_GHindcastref11H a0), (1, aS a1)] []).st Q'
  refine W_seq ?_
  refine W_y (s' := LS.mk 18 [(1, aS a1), (2, .ptr 2 0), (4, .ptr 4 0), (6, .ptr 6 0)] [(2, some (.box 33 [aI .i64 a0.Room, aI .i64 a0.Cells, .t (.sl 4 (a0.L.map c_GApiObj))])), (4, some (.box 46 [aI .u8 0, aI .i64 0, aI .i64 0, aI .i64 0])), (6, some (.box 33 [aI .i64 0, aI .i64 0, aNil]))]) mixed [qn0, qn0, qn0, qn0] ⟨[1, 2, 4, 6], [], [2, 4, 6], [], [], [], []⟩ aN (by kernel_rfl) ?_
  refine W_seq ?_
  refine W_seq ?_
  refine W_y (s' := LS.mk 18 [(1, aS a1), (2, .ptr 2 0), (4, .ptr 4 0), (6, .ptr 6 0), (8, aB (decide (a1 = ([] : List UInt8))))] [(2, some (.box 33 [aI .i64 a0.Room, aI .i64 a0.Cells, .t (.sl 4 (a0.L.map c_GApiObj))])), (4, some (.box 46 [aI .u8 0, aI .i64 0, aI .i64 0, aI .i64 0])), (6, some (.box 33 [aI .i64 0, aI .i64 0, aNil]))]) mixed [qn0, qn (.val (.bool (decide (a1 = ([] : List UInt8)))))] ⟨[1, 2, 4, 6, 8], [], [2, 4, 6], [], [], [], []⟩ (aC (str_eq_ob (P := Try.prog) 9 a1 ([] : List UInt8)) aN) (by kernel_rfl) ?_
  refine W_cond (decide (a1 = ([] : List UInt8))) (by kernel_rfl) (fun hb1 => ?_) (fun hb1 => ?_)
  · have hx2 := hb1
    have h := if_t h hx2
    refine W_seq ?_
    refine W_y (s' := LS.mk 18 [(4, .ptr 4 0), (5, aB true), (6, .ptr 6 0)] [(4, some (.box 46 [aI .u8 3, aI .i64 0, aI .i64 0, aI .i64 0])), (6, some (.box 33 [aI .i64 a0.Room, aI .i64 a0.Cells, .t (.sl 4 (a0.L.map c_GApiObj))]))]) mixed [qn0, qn0, qn0, qn0, qn0] ⟨[4, 5, 6], [], [4, 6], [], [], [], []⟩ aN (by kernel_rfl) ?_
    refine W_ret ?_
    exact kr [] _ _ (by kernel_rfl) (Option.some.inj h)
  · have hx2 := hb1
    have h := if_f h hx2
    refine W_skip ?_
    refine W_seq ?_
    obtain ⟨r3_3, hr3_3, h⟩ := bind_ok h
    have hr3_3 := hindcastref11_H_Add_ok hr3_3
    refine W_y (s' := LS.mk 18 [(4, .ptr 4 0), (5, aB r3_3.2.1), (6, .ptr 6 0)] [(4, some (.box 46 [aI .u8 r3_3.1.Kind, aI .i64 r3_3.1.N, aI .i64 r3_3.1.Re, aI .i64 r3_3.1.Im])), (6, some (.box 33 [aI .i64 r3_3.2.2.Room, aI .i64 r3_3.2.2.Cells, .t (.sl 4 (r3_3.2.2.L.map c_GApiObj))]))]) mixed [qn0, qn0, qn0, qn (.call [(1, 3, 4)] (.tup [e_GApiValue r3_3.1, aB r3_3.2.1, e_GHindcastref11H r3_3.2.2])), qn0, qn0, qn0, qn0, qn0, qn0] ⟨[4, 5, 6], [], [4, 6], [], [], [], []⟩ (aC hr3_3 aN) (by kernel_rfl) ?_
    refine W_ret ?_
    exact kr [] _ _ (by kernel_rfl) (Option.some.inj h)
def R_hindcastref11_H_List (a0 : GHindcastref11H) (a1 : Int) (a2 : Int) (a3 : GApiValue) (r : (GApiValue × Bool × GHindcastref11H)) : Prop := FnP Try.prog 36 [e_GHindcastref11H a0, aI .i64 a1, aI .i64 a2, e_GApiValue a3] (.tup [e_GApiValue r.1, aB r.2.1, e_GHindcastref11H r.2.2])
inductive hindcastref11_H_List_C where
  | l0 (a1 : Int) (a2 : Int) (v0_12_0 : Int) (a0 : GHindcastref11H) (a3 : GApiValue) (w0_1011 : (List GApiValue))
  | j1 (a1 : Int) (a0 : GHindcastref11H) (w0_1011 : (List GApiValue))
abbrev hindcastref11_H_List_C_T : hindcastref11_H_List_C → Type := fun _ => (GApiValue × Bool × GHindcastref11H)
noncomputable def hindcastref11_H_List_l0_b (g : (i : hindcastref11_H_List_C) → Option (hindcastref11_H_List_C_T i)) (a1 : Int) (a2 : Int) (v0_12_0 : Int) (a0 : GHindcastref11H) (a3 : GApiValue) (w0_1011 : (List GApiValue)) : Option (GApiValue × Bool × GHindcastref11H) :=
  (if v0_12_0 < a2 then (if AppOb 32 (w0_1011.length + ([a3] : List GApiValue).length) then g (.l0 a1 a2 (w64 (v0_12_0 + 1)) a0 a3 (w0_1011 ++ ([a3] : List GApiValue))) else none) else g (.j1 a1 a0 w0_1011))
noncomputable def hindcastref11_H_List_j1_b (g : (i : hindcastref11_H_List_C) → Option (hindcastref11_H_List_C_T i)) (a1 : Int) (a0 : GHindcastref11H) (w0_1011 : (List GApiValue)) : Option (GApiValue × Bool × GHindcastref11H) :=
  ((hindcastref11_H_Add a0 (GApiObj.mk 7 a1 ([] : List UInt8) w0_1011)).bind fun (r8_4 : (GApiValue × Bool × GHindcastref11H)) => (some (r8_4.1, r8_4.2.1, r8_4.2.2)))
noncomputable def hindcastref11_H_List_B (g : (i : hindcastref11_H_List_C) → Option (hindcastref11_H_List_C_T i)) : (i : hindcastref11_H_List_C) → Option (hindcastref11_H_List_C_T i)
  | .l0 a1 a2 v0_12_0 a0 a3 w0_1011 => hindcastref11_H_List_l0_b g a1 a2 v0_12_0 a0 a3 w0_1011
  | .j1 a1 a0 w0_1011 => hindcastref11_H_List_j1_b g a1 a0 w0_1011
theorem hindcastref11_H_List_B_fin (i : hindcastref11_H_List_C) : Fin1 (fun g => hindcastref11_H_List_B g i) := by
  cases i with
  | l0 a1 a2 v0_12_0 a0 a3 w0_1011 => show Fin1 (fun g => hindcastref11_H_List_l0_b g a1 a2 v0_12_0 a0 a3 w0_1011); unfold hindcastref11_H_List_l0_b; repeat (first | refine fin_bind ?_ (fun _ => ?_) | refine fin_ite ?_ ?_ | refine fin_opt ?_ (fun _ => ?_) | exact fin_ask _ | exact fin_const _)
  | j1 a1 a0 w0_1011 => show Fin1 (fun g => hindcastref11_H_List_j1_b g a1 a0 w0_1011); unfold hindcastref11_H_List_j1_b; repeat (first | refine fin_bind ?_ (fun _ => ?_) | refine fin_ite ?_ ?_ | refine fin_opt ?_ (fun _ => ?_) | exact fin_ask _ | exact fin_const _)
noncomputable def hindcastref11_H_List_l0 (a1 : Int) (a2 : Int) (v0_12_0 : Int) (a0 : GHindcastref11H) (a3 : GApiValue) (w0_1011 : (List GApiValue)) : Option (GApiValue × Bool × GHindcastref11H) := fixD hindcastref11_H_List_B (.l0 a1 a2 v0_12_0 a0 a3 w0_1011)
noncomputable def hindcastref11_H_List_j1 (a1 : Int) (a0 : GHindcastref11H) (w0_1011 : (List GApiValue)) : Option (GApiValue × Bool × GHindcastref11H) := fixD hindcastref11_H_List_B (.j1 a1 a0 w0_1011)
theorem hindcastref11_H_List_l0_eq (a1 : Int) (a2 : Int) (v0_12_0 : Int) (a0 : GHindcastref11H) (a3 : GApiValue) (w0_1011 : (List GApiValue)) : hindcastref11_H_List_l0 a1 a2 v0_12_0 a0 a3 w0_1011 =
  (if v0_12_0 < a2 then (if AppOb 32 (w0_1011.length + ([a3] : List GApiValue).length) then hindcastref11_H_List_l0 a1 a2 (w64 (v0_12_0 + 1)) a0 a3 (w0_1011 ++ ([a3] : List GApiValue)) else none) else hindcastref11_H_List_j1 a1 a0 w0_1011) := fix_eq hindcastref11_H_List_B_fin _
theorem hindcastref11_H_List_j1_eq (a1 : Int) (a0 : GHindcastref11H) (w0_1011 : (List GApiValue)) : hindcastref11_H_List_j1 a1 a0 w0_1011 =
  ((hindcastref11_H_Add a0 (GApiObj.mk 7 a1 ([] : List UInt8) w0_1011)).bind fun (r8_4 : (GApiValue × Bool × GHindcastref11H)) => (some (r8_4.1, r8_4.2.1, r8_4.2.2))) := fix_eq hindcastref11_H_List_B_fin _
set_option maxRecDepth 100000 in
theorem hindcastref11_H_List_l0_ok (n : Nat)  (a1 : Int) (a2 : Int) (v0_12_0 : Int) (a0 : GHindcastref11H) (a3 : GApiValue) (w0_1011 : (List GApiValue)) (r_ : (GApiValue × Bool × GHindcastref11H)) (Q' : Exit → St → Prop) (kr : ∀ (ns : List (Nat × Nat × Nat)) (s : LS) (x : (GApiValue × Bool × GHindcastref11H)), retX Try.prog ns [.cell 8 46, .tmp 9, .cell 10 33] s = some (.tup [e_GApiValue x.1, aB x.2.1, e_GHindcastref11H x.2.2]) → x = r_ → Q' .ret s.st) (k_x_0 : ∀ (q : Nat), q < n → ∀ (w0_1011 : (List GApiValue)) (s' : LS), recN hindcastref11_H_List_B q (.j1 a1 a0 w0_1011) = some r_ → Fits s'.st (LS.mk 43 [(1, aI .i64 a1), (4, .ptr 4 0), (8, .ptr 8 0), (10, .ptr 10 0), (11, .ref 1011)] [(4, some (.box 33 [aI .i64 a0.Room, aI .i64 a0.Cells, .t (.sl 4 (a0.L.map c_GApiObj))])), (8, some (.box 46 [aI .u8 0, aI .i64 0, aI .i64 0, aI .i64 0])), (10, some (.box 33 [aI .i64 0, aI .i64 0, aNil])), (1011, some (.row 46 4 (w0_1011.map c_GApiValue)))]).st → Q' (.exit 0) s'.st) (h : recN hindcastref11_H_List_B n (.l0 a1 a2 v0_12_0 a0 a3 w0_1011) = some r_) : W Try.prog (subC (bodyC Try.prog 36) [1, 1, 1, 0, 1, 0]) (LS.mk 43 [(1, aI .i64 a1), (2, aI .i64 a2), (4, .ptr 4 0), (7, .ptr 7 0), (8, .ptr 8 0), (10, .ptr 10 0), (11, .ref 1011), (12, aI .i64 v0_12_0)] [(4, some (.box 33 [aI .i64 a0.Room, aI .i64 a0.Cells, .t (.sl 4 (a0.L.map c_GApiObj))])), (7, some (.box 46 [aI .u8 a3.Kind, aI .i64 a3.N, aI .i64 a3.Re, aI .i64 a3.Im])), (8, some (.box 46 [aI .u8 0, aI .i64 0, aI .i64 0, aI .i64 0])), (10, some (.box 33 [aI .i64 0, aI .i64 0, aNil])), (1011, some (.row 46 4 (w0_1011.map c_GApiValue)))]).st Q' := by
  refine W_fix (σ := Int × (List GApiValue)) (fun m x_ => m ≤ n ∧ recN hindcastref11_H_List_B m (.l0 a1 a2 x_.1 a0 a3 x_.2) = some r_) (fun x_ => LS.mk 43 [(1, aI .i64 a1), (2, aI .i64 a2), (4, .ptr 4 0), (7, .ptr 7 0), (8, .ptr 8 0), (10, .ptr 10 0), (11, .ref 1011), (12, aI .i64 x_.1)] [(4, some (.box 33 [aI .i64 a0.Room, aI .i64 a0.Cells, .t (.sl 4 (a0.L.map c_GApiObj))])), (7, some (.box 46 [aI .u8 a3.Kind, aI .i64 a3.N, aI .i64 a3.Re, aI .i64 a3.Im])), (8, some (.box 46 [aI .u8 0, aI .i64 0, aI .i64 0, aI .i64 0])), (10, some (.box 33 [aI .i64 0, aI .i64 0, aNil])), (1011, some (.row 46 4 (x_.2.map c_GApiValue)))]) (fun x hx => by cases hx.2) (fun _ _ => rfl) ?_ n (v0_12_0, w0_1011) ⟨Nat.le_refl _, h⟩
  clear h
  rintro m ⟨v0_12_0, w0_1011⟩ ⟨hlt, h⟩
  replace h : hindcastref11_H_List_l0_b (recN hindcastref11_H_List_B m) a1 a2 v0_12_0 a0 a3 w0_1011 = some r_ := h
  unfold hindcastref11_H_List_l0_b at h
  refine W_seq ?_
  refine W_seq ?_
  refine W_y (s' := LS.mk 43 [(1, aI .i64 a1), (2, aI .i64 a2), (4, .ptr 4 0), (7, .ptr 7 0), (8, .ptr 8 0), (10, .ptr 10 0), (11, .ref 1011), (12, aI .i64 v0_12_0), (28, aB (decide (v0_12_0 < a2)))] [(4, some (.box 33 [aI .i64 a0.Room, aI .i64 a0.Cells, .t (.sl 4 (a0.L.map c_GApiObj))])), (7, some (.box 46 [aI .u8 a3.Kind, aI .i64 a3.N, aI .i64 a3.Re, aI .i64 a3.Im])), (8, some (.box 46 [aI .u8 0, aI .i64 0, aI .i64 0, aI .i64 0])), (10, some (.box 33 [aI .i64 0, aI .i64 0, aNil])), (1011, some (.row 46 4 (w0_1011.map c_GApiValue)))]) mixed [qn0, qn0, qn0] ⟨[1, 2, 4, 7, 8, 10, 11, 12, 28], [], [4, 7, 8, 10], [], [(1011, 1011)], [], []⟩ aN (by kernel_rfl) ?_
  refine W_cond (decide (v0_12_0 < a2)) (by kernel_rfl) (fun hb1001 => ?_) (fun hb1001 => ?_)
  · have hx1002 := hb1001
    have h := if_t h hx1002
    refine W_skip ?_
    refine W_seq ?_
    refine W_block ?_
    obtain ⟨hd1003, h⟩ := ite_ok h
    refine W_y (s' := LS.mk 43 [(1, aI .i64 a1), (2, aI .i64 a2), (4, .ptr 4 0), (7, .ptr 7 0), (8, .ptr 8 0), (10, .ptr 10 0), (11, .ref 1011), (12, aI .i64 v0_12_0)] [(4, some (.box 33 [aI .i64 a0.Room, aI .i64 a0.Cells, .t (.sl 4 (a0.L.map c_GApiObj))])), (7, some (.box 46 [aI .u8 a3.Kind, aI .i64 a3.N, aI .i64 a3.Re, aI .i64 a3.Im])), (8, some (.box 46 [aI .u8 0, aI .i64 0, aI .i64 0, aI .i64 0])), (10, some (.box 33 [aI .i64 0, aI .i64 0, aNil])), (1011, some (.row 46 4 ((w0_1011 ++ ([a3] : List GApiValue)).map c_GApiValue)))]) mixed [qn0, qn0, qn0, qn (.rows ((w0_1011 ++ ([a3] : List GApiValue)).map c_GApiValue)), qn0] ⟨[1, 2, 4, 7, 8, 10, 11, 12], [], [4, 7, 8, 10], [], [(34, 1011)], [], []⟩ (aC (ap_obx c_GApiValue hd1003) (aC (app_obx c_GApiValue w0_1011 ([a3] : List GApiValue)) aN)) (by kernel_rfl) ?_
    refine W_y (s' := LS.mk 43 [(1, aI .i64 a1), (2, aI .i64 a2), (4, .ptr 4 0), (7, .ptr 7 0), (8, .ptr 8 0), (10, .ptr 10 0), (11, .ref 1011), (12, aI .i64 (w64 (v0_12_0 + 1)))] [(4, some (.box 33 [aI .i64 a0.Room, aI .i64 a0.Cells, .t (.sl 4 (a0.L.map c_GApiObj))])), (7, some (.box 46 [aI .u8 a3.Kind, aI .i64 a3.N, aI .i64 a3.Re, aI .i64 a3.Im])), (8, some (.box 46 [aI .u8 0, aI .i64 0, aI .i64 0, aI .i64 0])), (10, some (.box 33 [aI .i64 0, aI .i64 0, aNil])), (1011, some (.row 46 4 ((w0_1011 ++ ([a3] : List GApiValue)).map c_GApiValue)))]) mixed [qn0, qn0, qn0] ⟨[1, 2, 4, 7, 8, 10, 11, 12], [], [4, 7, 8, 10], [], [(1011, 1011)], [], []⟩ aN (by kernel_rfl) ?_
    exact ⟨m, ((w64 (v0_12_0 + 1)), (w0_1011 ++ ([a3] : List GApiValue))), Nat.le_refl _, ⟨Nat.le_of_lt hlt, h⟩, convX_fits (v := ⟨[1, 2, 4, 7, 8, 10, 11, 12], [], [4, 7, 8, 10], [], [(1011, 1011)], [], []⟩) (s' := LS.mk 43 [(1, aI .i64 a1), (2, aI .i64 a2), (4, .ptr 4 0), (7, .ptr 7 0), (8, .ptr 8 0), (10, .ptr 10 0), (11, .ref 1011), (12, aI .i64 (w64 (v0_12_0 + 1)))] [(4, some (.box 33 [aI .i64 a0.Room, aI .i64 a0.Cells, .t (.sl 4 (a0.L.map c_GApiObj))])), (7, some (.box 46 [aI .u8 a3.Kind, aI .i64 a3.N, aI .i64 a3.Re, aI .i64 a3.Im])), (8, some (.box 46 [aI .u8 0, aI .i64 0, aI .i64 0, aI .i64 0])), (10, some (.box 33 [aI .i64 0, aI .i64 0, aNil])), (1011, some (.row 46 4 ((w0_1011 ++ ([a3] : List GApiValue)).map c_GApiValue)))]) (by kernel_rfl)⟩
  · have hx1002 := hb1001
    have h := if_f h hx1002
    refine W_exit ?_
    exact k_x_0 m hlt w0_1011 _ h (convX_fits (v := ⟨[1, 4, 8, 10, 11], [], [4, 8, 10], [], [(1011, 1011)], [], []⟩) (s' := LS.mk 43 [(1, aI .i64 a1), (4, .ptr 4 0), (8, .ptr 8 0), (10, .ptr 10 0), (11, .ref 1011)] [(4, some (.box 33 [aI .i64 a0.Room, aI .i64 a0.Cells, .t (.sl 4 (a0.L.map c_GApiObj))])), (8, some (.box 46 [aI .u8 0, aI .i64 0, aI .i64 0, aI .i64 0])), (10, some (.box 33 [aI .i64 0, aI .i64 0, aNil])), (1011, some (.row 46 4 (w0_1011.map c_GApiValue)))]) (by kernel_rfl))
set_option maxRecDepth 100000 in
theorem hindcastref11_H_List_j1_ok (n : Nat)  (a1 : Int) (a0 : GHindcastref11H) (w0_1011 : (List GApiValue)) (r_ : (GApiValue × Bool × GHindcastref11H)) (Q' : Exit → St → Prop) (kr : ∀ (ns : List (Nat × Nat × Nat)) (s : LS) (x : (GApiValue × Bool × GHindcastref11H)), retX Try.prog ns [.cell 8 46, .tmp 9, .cell 10 33] s = some (.tup [e_GApiValue x.1, aB x.2.1, e_GHindcastref11H x.2.2]) → x = r_ → Q' .ret s.st)  (h : recN hindcastref11_H_List_B n (.j1 a1 a0 w0_1011) = some r_) : W Try.prog (subC (bodyC Try.prog 36) [1, 1, 1, 1]) (LS.mk 43 [(1, aI .i64 a1), (4, .ptr 4 0), (8, .ptr 8 0), (10, .ptr 10 0), (11, .ref 1011)] [(4, some (.box 33 [aI .i64 a0.Room, aI .i64 a0.Cells, .t (.sl 4 (a0.L.map c_GApiObj))])), (8, some (.box 46 [aI .u8 0, aI .i64 0, aI .i64 0, aI .i64 0])), (10, some (.box 33 [aI .i64 0, aI .i64 0, aNil])), (1011, some (.row 46 4 (w0_1011.map c_GApiValue)))]).st Q' := by
  cases n with
  | zero => cases h
  | succ m =>
  have hlt : m < m + 1 := Nat.lt_succ_self m
  replace h : hindcastref11_H_List_j1_b (recN hindcastref11_H_List_B m) a1 a0 w0_1011 = some r_ := h
  unfold hindcastref11_H_List_j1_b at h
  refine W_seq ?_
  obtain ⟨r8_4, hr8_4, h⟩ := bind_ok h
  have hr8_4 := hindcastref11_H_Add_ok hr8_4
  refine W_y (s' := LS.mk 43 [(8, .ptr 8 0), (9, aB r8_4.2.1), (10, .ptr 10 0)] [(8, some (.box 46 [aI .u8 r8_4.1.Kind, aI .i64 r8_4.1.N, aI .i64 r8_4.1.Re, aI .i64 r8_4.1.Im])), (10, some (.box 33 [aI .i64 r8_4.2.2.Room, aI .i64 r8_4.2.2.Cells, .t (.sl 4 (r8_4.2.2.L.map c_GApiObj))]))]) mixed [qn0, qn0, qn0, qn0, (none, [1011], .call [] (.tup [e_GApiValue r8_4.1, aB r8_4.2.1, e_GHindcastref11H r8_4.2.2])), qn0, qn0, qn0, qn0, qn0, qn0] ⟨[8, 9, 10], [], [8, 10], [], [], [], []⟩ (aC hr8_4 aN) (by kernel_rfl) ?_
  refine W_ret ?_
  exact kr [] _ _ (by kernel_rfl) (Option.some.inj h)
noncomputable def hindcastref11_H_List (a0 : GHindcastref11H) (a1 : Int) (a2 : Int) (a3 : GApiValue) : Option (GApiValue × Bool × GHindcastref11H) :=
  (if a1 < 0 then (some ((GApiValue.mk 0 0 0 0), false, a0)) else (if a2 < 0 then (some ((GApiValue.mk 0 0 0 0), false, a0)) else (if a2 > 65536 then (some ((GApiValue.mk 0 0 0 0), false, a0)) else hindcastref11_H_List_l0 a1 a2 0 a0 a3 ([] : List GApiValue))))
set_option maxRecDepth 100000 in
theorem hindcastref11_H_List_ok {a0 : GHindcastref11H} {a1 : Int} {a2 : Int} {a3 : GApiValue} {r_ : (GApiValue × Bool × GHindcastref11H)} (h : hindcastref11_H_List a0 a1 a2 a3 = some r_) : R_hindcastref11_H_List a0 a1 a2 a3 r_ := by
  unfold hindcastref11_H_List at h
  refine fn_pureX (fn := Try.f36) (by kernel_rfl) (c := subC (bodyC Try.prog 36) []) (by kernel_rfl) (by kernel_rfl) (Nat.le_of_ble_eq_true (by kernel_rfl)) ?_
  generalize hQ' : retQ Try.prog Try.f36 (.tup [e_GApiValue r_.1, aB r_.2.1, e_GHindcastref11H r_.2.2]) = Q'
  have kr : ∀ (ns : List (Nat × Nat × Nat)) (s : LS) (x : (GApiValue × Bool × GHindcastref11H)), retX Try.prog ns [.cell 8 46, .tmp 9, .cell 10 33] s = some (.tup [e_GApiValue x.1, aB x.2.1, e_GHindcastref11H x.2.2]) → x = r_ → Q' .ret s.st := by subst hQ'; intro ns s x hx hq; subst hq; exact ret_ok (fn := Try.f36) ns hx
  change W Try.prog _ (LS.mk 43 [(0, e_GHindcastref11H a0), (1, aI .i64 a1), (2, aI .i64 a2), (3, e_GApiValue a3)] []).st Q'
  refine W_seq ?_
  refine W_y (s' := LS.mk 43 [(1, aI .i64 a1), (2, aI .i64 a2), (4, .ptr 4 0), (7, .ptr 7 0), (8, .ptr 8 0), (10, .ptr 10 0)] [(4, some (.box 33 [aI .i64 a0.Room, aI .i64 a0.Cells, .t (.sl 4 (a0.L.map c_GApiObj))])), (7, some (.box 46 [aI .u8 a3.Kind, aI .i64 a3.N, aI .i64 a3.Re, aI .i64 a3.Im])), (8, some (.box 46 [aI .u8 0, aI .i64 0, aI .i64 0, aI .i64 0])), (10, some (.box 33 [aI .i64 0, aI .i64 0, aNil]))]) mixed [qn0, qn0, qn0, qn0, qn0] ⟨[1, 2, 4, 7, 8, 10], [], [4, 7, 8, 10], [], [], [], []⟩ aN (by kernel_rfl) ?_
  refine W_seq ?_
  refine W_seq ?_
  refine (Bool.eq_false_or_eq_true (decide (a1 < 0))).elim (fun hb1 => ?_) (fun hb1 => ?_)
  · have hx2 := hb1
    have h := if_t h hx2
    refine W_y (s' := LS.mk 43 [(1, aI .i64 a1), (2, aI .i64 a2), (4, .ptr 4 0), (7, .ptr 7 0), (8, .ptr 8 0), (10, .ptr 10 0), (22, aB true)] [(4, some (.box 33 [aI .i64 a0.Room, aI .i64 a0.Cells, .t (.sl 4 (a0.L.map c_GApiObj))])), (7, some (.box 46 [aI .u8 a3.Kind, aI .i64 a3.N, aI .i64 a3.Re, aI .i64 a3.Im])), (8, some (.box 46 [aI .u8 0, aI .i64 0, aI .i64 0, aI .i64 0])), (10, some (.box 33 [aI .i64 0, aI .i64 0, aNil]))]) mixed [qn0, qn0, qn0, qt0, qt0, qn (.dec true), qn0, qn0, qn0, qn0] ⟨[1, 2, 4, 7, 8, 10, 22], [], [4, 7, 8, 10], [], [], [], []⟩ (aC hx2 (aC hx2 (aC hx2 aN))) (by kernel_rfl) ?_
    refine W_cond true (by kernel_rfl) (fun _ => ?_) (fun hb => nomatch ((rfl : true = true).symm.trans hb))
    refine W_seq ?_
    refine W_y (s' := LS.mk 43 [(8, .ptr 8 0), (9, aB false), (10, .ptr 10 0)] [(8, some (.box 46 [aI .u8 0, aI .i64 0, aI .i64 0, aI .i64 0])), (10, some (.box 33 [aI .i64 a0.Room, aI .i64 a0.Cells, .t (.sl 4 (a0.L.map c_GApiObj))]))]) mixed [qn0, qn0, qn0, qn0, qn0] ⟨[8, 9, 10], [], [8, 10], [], [], [], []⟩ aN (by kernel_rfl) ?_
    refine W_ret ?_
    exact kr [] _ _ (by kernel_rfl) (Option.some.inj h)
  · have hx2 := hb1
    have h := if_f h hx2
    refine (Bool.eq_false_or_eq_true (decide (a2 < 0))).elim (fun hb3 => ?_) (fun hb3 => ?_)
    · have hx4 := hb3
      have h := if_t h hx4
      refine W_y (s' := LS.mk 43 [(1, aI .i64 a1), (2, aI .i64 a2), (4, .ptr 4 0), (7, .ptr 7 0), (8, .ptr 8 0), (10, .ptr 10 0), (22, aB true)] [(4, some (.box 33 [aI .i64 a0.Room, aI .i64 a0.Cells, .t (.sl 4 (a0.L.map c_GApiObj))])), (7, some (.box 46 [aI .u8 a3.Kind, aI .i64 a3.N, aI .i64 a3.Re, aI .i64 a3.Im])), (8, some (.box 46 [aI .u8 0, aI .i64 0, aI .i64 0, aI .i64 0])), (10, some (.box 33 [aI .i64 0, aI .i64 0, aNil]))]) mixed [qn0, qn0, qn0, qf0, qf0, qn (.dec false), qn0, qt0, qt0, qn (.dec true)] ⟨[1, 2, 4, 7, 8, 10, 22], [], [4, 7, 8, 10], [], [], [], []⟩ (aC hx2 (aC hx2 (aC hx2 (aC hx4 (aC hx4 (aC hx4 aN)))))) (by kernel_rfl) ?_
      refine W_cond true (by kernel_rfl) (fun _ => ?_) (fun hb => nomatch ((rfl : true = true).symm.trans hb))
      refine W_seq ?_
      refine W_y (s' := LS.mk 43 [(8, .ptr 8 0), (9, aB false), (10, .ptr 10 0)] [(8, some (.box 46 [aI .u8 0, aI .i64 0, aI .i64 0, aI .i64 0])), (10, some (.box 33 [aI .i64 a0.Room, aI .i64 a0.Cells, .t (.sl 4 (a0.L.map c_GApiObj))]))]) mixed [qn0, qn0, qn0, qn0, qn0] ⟨[8, 9, 10], [], [8, 10], [], [], [], []⟩ aN (by kernel_rfl) ?_
      refine W_ret ?_
      exact kr [] _ _ (by kernel_rfl) (Option.some.inj h)
    · have hx4 := hb3
      have h := if_f h hx4
      refine W_y (s' := LS.mk 43 [(1, aI .i64 a1), (2, aI .i64 a2), (4, .ptr 4 0), (7, .ptr 7 0), (8, .ptr 8 0), (10, .ptr 10 0), (22, aB (decide (a2 > 65536)))] [(4, some (.box 33 [aI .i64 a0.Room, aI .i64 a0.Cells, .t (.sl 4 (a0.L.map c_GApiObj))])), (7, some (.box 46 [aI .u8 a3.Kind, aI .i64 a3.N, aI .i64 a3.Re, aI .i64 a3.Im])), (8, some (.box 46 [aI .u8 0, aI .i64 0, aI .i64 0, aI .i64 0])), (10, some (.box 33 [aI .i64 0, aI .i64 0, aNil]))]) mixed [qn0, qn0, qn0, qf0, qf0, qn (.dec false), qn0, qf0, qf0, qn (.dec false)] ⟨[1, 2, 4, 7, 8, 10, 22], [], [4, 7, 8, 10], [], [], [], []⟩ (aC hx2 (aC hx2 (aC hx2 (aC hx4 (aC hx4 (aC hx4 aN)))))) (by kernel_rfl) ?_
      refine W_cond (decide (a2 > 65536)) (by kernel_rfl) (fun hb5 => ?_) (fun hb5 => ?_)
      · have hx6 := hb5
        have h := if_t h hx6
        refine W_seq ?_
        refine W_y (s' := LS.mk 43 [(8, .ptr 8 0), (9, aB false), (10, .ptr 10 0)] [(8, some (.box 46 [aI .u8 0, aI .i64 0, aI .i64 0, aI .i64 0])), (10, some (.box 33 [aI .i64 a0.Room, aI .i64 a0.Cells, .t (.sl 4 (a0.L.map c_GApiObj))]))]) mixed [qn0, qn0, qn0, qn0, qn0] ⟨[8, 9, 10], [], [8, 10], [], [], [], []⟩ aN (by kernel_rfl) ?_
        refine W_ret ?_
        exact kr [] _ _ (by kernel_rfl) (Option.some.inj h)
      · have hx6 := hb5
        have h := if_f h hx6
        refine W_skip ?_
        refine W_seq ?_
        refine W_y (s' := LS.mk 43 [(1, aI .i64 a1), (2, aI .i64 a2), (4, .ptr 4 0), (7, .ptr 7 0), (8, .ptr 8 0), (10, .ptr 10 0), (11, .ref 1011)] [(4, some (.box 33 [aI .i64 a0.Room, aI .i64 a0.Cells, .t (.sl 4 (a0.L.map c_GApiObj))])), (7, some (.box 46 [aI .u8 a3.Kind, aI .i64 a3.N, aI .i64 a3.Re, aI .i64 a3.Im])), (8, some (.box 46 [aI .u8 0, aI .i64 0, aI .i64 0, aI .i64 0])), (10, some (.box 33 [aI .i64 0, aI .i64 0, aNil])), (1011, some (.row 46 4 (([] : List GApiValue).map c_GApiValue)))]) mixed [qn0, qn0] ⟨[1, 2, 4, 7, 8, 10, 11], [], [4, 7, 8, 10], [], [(25, 1011)], [], []⟩ aN (by kernel_rfl) ?_
        refine W_seq ?_
        refine W_seq ?_
        refine W_y (s' := LS.mk 43 [(1, aI .i64 a1), (2, aI .i64 a2), (4, .ptr 4 0), (7, .ptr 7 0), (8, .ptr 8 0), (10, .ptr 10 0), (11, .ref 1011), (12, aI .i64 0)] [(4, some (.box 33 [aI .i64 a0.Room, aI .i64 a0.Cells, .t (.sl 4 (a0.L.map c_GApiObj))])), (7, some (.box 46 [aI .u8 a3.Kind, aI .i64 a3.N, aI .i64 a3.Re, aI .i64 a3.Im])), (8, some (.box 46 [aI .u8 0, aI .i64 0, aI .i64 0, aI .i64 0])), (10, some (.box 33 [aI .i64 0, aI .i64 0, aNil])), (1011, some (.row 46 4 (([] : List GApiValue).map c_GApiValue)))]) mixed [qn0] ⟨[1, 2, 4, 7, 8, 10, 11, 12], [], [4, 7, 8, 10], [], [(1011, 1011)], [], []⟩ aN (by kernel_rfl) ?_
        refine W_block ?_
        obtain ⟨n, h⟩ := fix_rec h
        exact W_conv (s' := LS.mk 43 [(1, aI .i64 a1), (2, aI .i64 a2), (4, .ptr 4 0), (7, .ptr 7 0), (8, .ptr 8 0), (10, .ptr 10 0), (11, .ref 1011), (12, aI .i64 0)] [(4, some (.box 33 [aI .i64 a0.Room, aI .i64 a0.Cells, .t (.sl 4 (a0.L.map c_GApiObj))])), (7, some (.box 46 [aI .u8 a3.Kind, aI .i64 a3.N, aI .i64 a3.Re, aI .i64 a3.Im])), (8, some (.box 46 [aI .u8 0, aI .i64 0, aI .i64 0, aI .i64 0])), (10, some (.box 33 [aI .i64 0, aI .i64 0, aNil])), (1011, some (.row 46 4 (([] : List GApiValue).map c_GApiValue)))]) ⟨[1, 2, 4, 7, 8, 10, 11, 12], [], [4, 7, 8, 10], [], [(1011, 1011)], [], []⟩ (by kernel_rfl) (hindcastref11_H_List_l0_ok n a1 a2 0 a0 a3 ([] : List GApiValue) r_ _ kr (fun q1 hq1 w0_1011 s' h hf => W_pre hf (hindcastref11_H_List_j1_ok q1 a1 a0 w0_1011 r_ _ kr h)) h)
def R_hindcastref11_H_Rec (a0 : GHindcastref11H) (a1 : Int) (a2 : (List GApiValue)) (r : (GApiValue × Bool × GHindcastref11H)) : Prop := FnP Try.prog 37 [e_GHindcastref11H a0, aI .i64 a1, .t (.sl 4 (a2.map c_GApiValue))] (.tup [e_GApiValue r.1, aB r.2.1, e_GHindcastref11H r.2.2])
noncomputable def hindcastref11_H_Rec (a0 : GHindcastref11H) (a1 : Int) (a2 : (List GApiValue)) : Option (GApiValue × Bool × GHindcastref11H) :=
  (if a1 < 0 then (some ((GApiValue.mk 0 0 0 0), false, a0)) else (if AppOb 32 (([] : List GApiValue).length + a2.length) then ((hindcastref11_H_Add a0 (GApiObj.mk 6 a1 ([] : List UInt8) (([] : List GApiValue) ++ a2))).bind fun (r5_4 : (GApiValue × Bool × GHindcastref11H)) => (some (r5_4.1, r5_4.2.1, r5_4.2.2))) else none))
set_option maxRecDepth 100000 in
theorem hindcastref11_H_Rec_ok {a0 : GHindcastref11H} {a1 : Int} {a2 : (List GApiValue)} {r_ : (GApiValue × Bool × GHindcastref11H)} (h : hindcastref11_H_Rec a0 a1 a2 = some r_) : R_hindcastref11_H_Rec a0 a1 a2 r_ := by
  unfold hindcastref11_H_Rec at h
  refine fn_pureX (fn := Try.f37) (by kernel_rfl) (c := subC (bodyC Try.prog 37) []) (by kernel_rfl) (by kernel_rfl) (Nat.le_of_ble_eq_true (by kernel_rfl)) ?_
  generalize hQ' : retQ Try.prog Try.f37 (.tup [e_GApiValue r_.1, aB r_.2.1, e_GHindcastref11H r_.2.2]) = Q'
  have kr : ∀ (ns : List (Nat × Nat × Nat)) (s : LS) (x : (GApiValue × Bool × GHindcastref11H)), retX Try.prog ns [.cell 6 46, .tmp 7, .cell 8 33] s = some (.tup [e_GApiValue x.1, aB x.2.1, e_GHindcastref11H x.2.2]) → x = r_ → Q' .ret s.st := by subst hQ'; intro ns s x hx hq; subst hq; exact ret_ok (fn := Try.f37) ns hx
  change W Try.prog _ (LS.mk 26 [(0, e_GHindcastref11H a0), (1, aI .i64 a1), (2, .t (.sl 4 (a2.map c_GApiValue)))] []).st Q'
  refine W_seq ?_
  refine W_y (s' := LS.mk 26 [(1, aI .i64 a1), (2, .t (.sl 4 (a2.map c_GApiValue))), (3, .ptr 3 0), (6, .ptr 6 0), (8, .ptr 8 0)] [(3, some (.box 33 [aI .i64 a0.Room, aI .i64 a0.Cells, .t (.sl 4 (a0.L.map c_GApiObj))])), (6, some (.box 46 [aI .u8 0, aI .i64 0, aI .i64 0, aI .i64 0])), (8, some (.box 33 [aI .i64 0, aI .i64 0, aNil]))]) mixed [qn0, qn0, qn0, qn0] ⟨[1, 2, 3, 6, 8], [], [3, 6, 8], [], [], [], []⟩ aN (by kernel_rfl) ?_
  refine W_seq ?_
  refine W_seq ?_
  refine W_y (s' := LS.mk 26 [(1, aI .i64 a1), (2, .t (.sl 4 (a2.map c_GApiValue))), (3, .ptr 3 0), (6, .ptr 6 0), (8, .ptr 8 0), (11, aB (decide (a1 < 0)))] [(3, some (.box 33 [aI .i64 a0.Room, aI .i64 a0.Cells, .t (.sl 4 (a0.L.map c_GApiObj))])), (6, some (.box 46 [aI .u8 0, aI .i64 0, aI .i64 0, aI .i64 0])), (8, some (.box 33 [aI .i64 0, aI .i64 0, aNil]))]) mixed [qn0, qn0] ⟨[1, 2, 3, 6, 8, 11], [], [3, 6, 8], [], [], [], []⟩ aN (by kernel_rfl) ?_
  refine W_cond (decide (a1 < 0)) (by kernel_rfl) (fun hb1 => ?_) (fun hb1 => ?_)
  · have hx2 := hb1
    have h := if_t h hx2
    refine W_seq ?_
    refine W_y (s' := LS.mk 26 [(6, .ptr 6 0), (7, aB false), (8, .ptr 8 0)] [(6, some (.box 46 [aI .u8 0, aI .i64 0, aI .i64 0, aI .i64 0])), (8, some (.box 33 [aI .i64 a0.Room, aI .i64 a0.Cells, .t (.sl 4 (a0.L.map c_GApiObj))]))]) mixed [qn0, qn0, qn0, qn0, qn0] ⟨[6, 7, 8], [], [6, 8], [], [], [], []⟩ aN (by kernel_rfl) ?_
    refine W_ret ?_
    exact kr [] _ _ (by kernel_rfl) (Option.some.inj h)
  · have hx2 := hb1
    have h := if_f h hx2
    refine W_skip ?_
    refine W_seq ?_
    refine W_y (s' := LS.mk 26 [(1, aI .i64 a1), (2, .t (.sl 4 (a2.map c_GApiValue))), (3, .ptr 3 0), (6, .ptr 6 0), (8, .ptr 8 0), (9, .ref 1009)] [(3, some (.box 33 [aI .i64 a0.Room, aI .i64 a0.Cells, .t (.sl 4 (a0.L.map c_GApiObj))])), (6, some (.box 46 [aI .u8 0, aI .i64 0, aI .i64 0, aI .i64 0])), (8, some (.box 33 [aI .i64 0, aI .i64 0, aNil])), (1009, some (.row 46 4 (([] : List GApiValue).map c_GApiValue)))]) mixed [qn0, qn0] ⟨[1, 2, 3, 6, 8, 9], [], [3, 6, 8], [], [(14, 1009)], [], []⟩ aN (by kernel_rfl) ?_
    refine W_seq ?_
    obtain ⟨hd3, h⟩ := ite_ok h
    refine W_y (s' := LS.mk 26 [(1, aI .i64 a1), (3, .ptr 3 0), (6, .ptr 6 0), (8, .ptr 8 0), (9, .ref 1009)] [(3, some (.box 33 [aI .i64 a0.Room, aI .i64 a0.Cells, .t (.sl 4 (a0.L.map c_GApiObj))])), (6, some (.box 46 [aI .u8 0, aI .i64 0, aI .i64 0, aI .i64 0])), (8, some (.box 33 [aI .i64 0, aI .i64 0, aNil])), (1009, some (.row 46 4 ((([] : List GApiValue) ++ a2).map c_GApiValue)))]) mixed [qn0, qn0, qn (.rows ((([] : List GApiValue) ++ a2).map c_GApiValue)), qn0] ⟨[1, 3, 6, 8, 9], [], [3, 6, 8], [], [(17, 1009)], [], []⟩ (aC (ap_obx c_GApiValue hd3) (aC (app_obx c_GApiValue ([] : List GApiValue) a2) aN)) (by kernel_rfl) ?_
    refine W_seq ?_
    obtain ⟨r5_4, hr5_4, h⟩ := bind_ok h
    have hr5_4 := hindcastref11_H_Add_ok hr5_4
    refine W_y (s' := LS.mk 26 [(6, .ptr 6 0), (7, aB r5_4.2.1), (8, .ptr 8 0)] [(6, some (.box 46 [aI .u8 r5_4.1.Kind, aI .i64 r5_4.1.N, aI .i64 r5_4.1.Re, aI .i64 r5_4.1.Im])), (8, some (.box 33 [aI .i64 r5_4.2.2.Room, aI .i64 r5_4.2.2.Cells, .t (.sl 4 (r5_4.2.2.L.map c_GApiObj))]))]) mixed [qn0, qn0, qn0, qn0, (none, [1009], .call [] (.tup [e_GApiValue r5_4.1, aB r5_4.2.1, e_GHindcastref11H r5_4.2.2])), qn0, qn0, qn0, qn0, qn0, qn0] ⟨[6, 7, 8], [], [6, 8], [], [], [], []⟩ (aC hr5_4 aN) (by kernel_rfl) ?_
    refine W_ret ?_
    exact kr [] _ _ (by kernel_rfl) (Option.some.inj h)
def R_hindcastref11_H_Names (a0 : GHindcastref11H) (a1 : GApiValue) (r : Bool) : Prop := FnP Try.prog 42 [e_GHindcastref11H a0, e_GApiValue a1] (aB r)
noncomputable def hindcastref11_H_Names (a0 : GHindcastref11H) (a1 : GApiValue) : Option Bool :=
  (if a1.N ≥ 1 then (if a1.N ≤ (a0.L.length : Int) then ((getI a0.L (w64 (a1.N - 1))).bind fun (x1_17 : GApiObj) => (some (decide (x1_17.Kind = a1.Kind)))) else (some false)) else (some false))
set_option maxRecDepth 100000 in
theorem hindcastref11_H_Names_ok {a0 : GHindcastref11H} {a1 : GApiValue} {r_ : Bool} (h : hindcastref11_H_Names a0 a1 = some r_) : R_hindcastref11_H_Names a0 a1 r_ := by
  unfold hindcastref11_H_Names at h
  refine fn_pureX (fn := Try.f42) (by kernel_rfl) (c := subC (bodyC Try.prog 42) []) (by kernel_rfl) (by kernel_rfl) (Nat.le_of_ble_eq_true (by kernel_rfl)) ?_
  generalize hQ' : retQ Try.prog Try.f42 (aB r_) = Q'
  have kr : ∀ (ns : List (Nat × Nat × Nat)) (s : LS) (x : Bool), retX Try.prog ns [.tmp 4] s = some (aB x) → x = r_ → Q' .ret s.st := by subst hQ'; intro ns s x hx hq; subst hq; exact ret_ok (fn := Try.f42) ns hx
  change W Try.prog _ (LS.mk 29 [(0, e_GHindcastref11H a0), (1, e_GApiValue a1)] []).st Q'
  refine W_seq ?_
  refine W_y (s' := LS.mk 29 [(2, .ptr 2 0), (3, .ptr 3 0)] [(2, some (.box 33 [aI .i64 a0.Room, aI .i64 a0.Cells, .t (.sl 4 (a0.L.map c_GApiObj))])), (3, some (.box 46 [aI .u8 a1.Kind, aI .i64 a1.N, aI .i64 a1.Re, aI .i64 a1.Im]))]) mixed [qn0, qn0, qn0] ⟨[2, 3], [], [2, 3], [], [], [], []⟩ aN (by kernel_rfl) ?_
  refine W_seq ?_
  refine (Bool.eq_false_or_eq_true (decide (a1.N ≥ 1))).elim (fun hb1 => ?_) (fun hb1 => ?_)
  · have hx2 := hb1
    have h := if_t h hx2
    refine (Bool.eq_false_or_eq_true (decide (a1.N ≤ (a0.L.length : Int)))).elim (fun hb3 => ?_) (fun hb3 => ?_)
    · have hx4 := hb3
      have h := if_t h hx4
      obtain ⟨x1_17, hx1_17, h⟩ := bind_ok h
      refine W_y (s' := LS.mk 29 [(4, aB (decide (x1_17.Kind = a1.Kind)))] []) mixed [qn0, qn0, qn0, qn0, qt0, qt0, qt0, qt0, qt (.len a0.L.length), qt0, qn (.dec true), qn0, qt0, qt0, qt0, qt0, qt0, qt (.ix (Int.toNat (w64 (a1.N - 1))) (c_GApiObj x1_17)), qt0, qt0, qt0, qt0, qt0, qn (.dec true), qn0] ⟨[4], [], [], [], [], [], []⟩ (aC hx2 (aC hx2 (aC hx2 (aC hx2 (aC hx2 (aC (len_obx c_GApiObj a0.L) (aC hx2 (aC hx2 (aC hx4 (aC hx4 (aC hx4 (aC hx4 (aC hx4 (aC hx4 (aC (ix_obx c_GApiObj hx1_17) (aC hx4 (aC hx4 (aC hx4 (aC hx4 (aC hx4 (aC hx4 aN))))))))))))))))))))) (by kernel_rfl) ?_
      refine W_ret ?_
      exact kr [] _ _ (by kernel_rfl) (Option.some.inj h)
    · have hx4 := hb3
      have h := if_f h hx4
      refine W_y (s' := LS.mk 29 [(4, aB false)] []) mixed [qn0, qn0, qn0, qn0, qt0, qt0, qt0, qt0, qt (.len a0.L.length), qt0, qn (.dec true), qn0, qf0, qf0, qf0, qf0, qf0, qf0, qf0, qf0, qf0, qf0, qf0, qn (.dec false), qn0] ⟨[4], [], [], [], [], [], []⟩ (aC hx2 (aC hx2 (aC hx2 (aC hx2 (aC hx2 (aC (len_obx c_GApiObj a0.L) (aC hx2 (aC hx2 (aC hx4 (aC hx4 (aC hx4 (aC hx4 (aC hx4 (aC hx4 (aC hx4 (aC hx4 (aC hx4 (aC hx4 (aC hx4 (aC hx4 aN)))))))))))))))))))) (by kernel_rfl) ?_
      refine W_ret ?_
      exact kr [] _ _ (by kernel_rfl) (Option.some.inj h)
  · have hx2 := hb1
    have h := if_f h hx2
    refine W_y (s' := LS.mk 29 [(4, aB false)] []) mixed [qn0, qn0, qn0, qn0, qf0, qf0, qf0, qf0, qf0, qf0, qn (.dec false), qn0, qn0, qn0, qn0, qn0, qn0, qn0, qn0, qn0, qn0, qn0, qn0, qn0, qn0] ⟨[4], [], [], [], [], [], []⟩ (aC hx2 (aC hx2 (aC hx2 (aC hx2 (aC hx2 (aC hx2 (aC hx2 aN))))))) (by kernel_rfl) ?_
    refine W_ret ?_
    exact kr [] _ _ (by kernel_rfl) (Option.some.inj h)
def R_hindcastref11_H_Put (a0 : GHindcastref11H) (a1 : GApiValue) (a2 : Int) (a3 : GApiValue) (r : (Int × GHindcastref11H)) : Prop := FnP Try.prog 38 [e_GHindcastref11H a0, e_GApiValue a1, aI .i64 a2, e_GApiValue a3] (.tup [aI .i64 r.1, e_GHindcastref11H r.2])
noncomputable def hindcastref11_H_Put (a0 : GHindcastref11H) (a1 : GApiValue) (a2 : Int) (a3 : GApiValue) : Option (Int × GHindcastref11H) :=
  (if a1.Kind = 3 then (some (3, a0)) else ((hindcastref11_H_Names a0 a1).bind fun (r1_6 : Bool) => (if r1_6 = true then ((getI a0.L (w64 (a1.N - 1))).bind fun (x3_5 : GApiObj) => (if a2 < 0 then (some (2, a0)) else (if a2 ≥ (x3_5.Vals.length : Int) then (some (2, a0)) else (if AppOb 32 (([] : List GApiValue).length + x3_5.Vals.length) then ((getI (([] : List GApiValue) ++ x3_5.Vals) a2).bind fun (x8_3 : GApiValue) => (if AppOb 56 (([] : List GApiObj).length + a0.L.length) then ((getI (([] : List GApiObj) ++ a0.L) (w64 (a1.N - 1))).bind fun (x12_5 : GApiObj) => (some (0, (GHindcastref11H.mk a0.Room a0.Cells ((([] : List GApiObj) ++ a0.L).set (Int.toNat (w64 (a1.N - 1))) (GApiObj.mk x3_5.Kind x3_5.Of x3_5.Text ((([] : List GApiValue) ++ x3_5.Vals).set (Int.toNat a2) a3))))))) else none)) else none)))) else (some (3, a0)))))
set_option maxRecDepth 100000 in
theorem hindcastref11_H_Put_ok {a0 : GHindcastref11H} {a1 : GApiValue} {a2 : Int} {a3 : GApiValue} {r_ : (Int × GHindcastref11H)} (h : hindcastref11_H_Put a0 a1 a2 a3 = some r_) : R_hindcastref11_H_Put a0 a1 a2 a3 r_ := by
  unfold hindcastref11_H_Put at h
  refine fn_pureX (fn := Try.f38) (by kernel_rfl) (c := subC (bodyC Try.prog 38) []) (by kernel_rfl) (by kernel_rfl) (Nat.le_of_ble_eq_true (by kernel_rfl)) ?_
  generalize hQ' : retQ Try.prog Try.f38 (.tup [aI .i64 r_.1, e_GHindcastref11H r_.2]) = Q'
  have kr : ∀ (ns : List (Nat × Nat × Nat)) (s : LS) (x : (Int × GHindcastref11H)), retX Try.prog ns [.tmp 8, .cell 9 33] s = some (.tup [aI .i64 x.1, e_GHindcastref11H x.2]) → x = r_ → Q' .ret s.st := by subst hQ'; intro ns s x hx hq; subst hq; exact ret_ok (fn := Try.f38) ns hx
  change W Try.prog _ (LS.mk 65 [(0, e_GHindcastref11H a0), (1, e_GApiValue a1), (2, aI .i64 a2), (3, e_GApiValue a3)] []).st Q'
  refine W_seq ?_
  refine W_y (s' := LS.mk 65 [(2, aI .i64 a2), (4, .ptr 4 0), (5, .ptr 5 0), (7, .ptr 7 0), (9, .ptr 9 0)] [(4, some (.box 33 [aI .i64 a0.Room, aI .i64 a0.Cells, .t (.sl 4 (a0.L.map c_GApiObj))])), (5, some (.box 46 [aI .u8 a1.Kind, aI .i64 a1.N, aI .i64 a1.Re, aI .i64 a1.Im])), (7, some (.box 46 [aI .u8 a3.Kind, aI .i64 a3.N, aI .i64 a3.Re, aI .i64 a3.Im])), (9, some (.box 33 [aI .i64 0, aI .i64 0, aNil]))]) mixed [qn0, qn0, qn0, qn0, qn0] ⟨[2, 4, 5, 7, 9], [], [4, 5, 7, 9], [], [], [], []⟩ aN (by kernel_rfl) ?_
  refine W_seq ?_
  refine W_seq ?_
  refine (Bool.eq_false_or_eq_true (decide (a1.Kind = 3))).elim (fun hb1 => ?_) (fun hb1 => ?_)
  · have hx2 := hb1
    have h := if_t h hx2
    refine W_y (s' := LS.mk 65 [(2, aI .i64 a2), (4, .ptr 4 0), (5, .ptr 5 0), (7, .ptr 7 0), (9, .ptr 9 0), (21, aB true)] [(4, some (.box 33 [aI .i64 a0.Room, aI .i64 a0.Cells, .t (.sl 4 (a0.L.map c_GApiObj))])), (5, some (.box 46 [aI .u8 a1.Kind, aI .i64 a1.N, aI .i64 a1.Re, aI .i64 a1.Im])), (7, some (.box 46 [aI .u8 a3.Kind, aI .i64 a3.N, aI .i64 a3.Re, aI .i64 a3.Im])), (9, some (.box 33 [aI .i64 0, aI .i64 0, aNil]))]) mixed [qn0, qn0, qn0, qn0, qt0, qt0, qt0, qt0, qn (.dec true)] ⟨[2, 4, 5, 7, 9, 21], [], [4, 5, 7, 9], [], [], [], []⟩ (aC hx2 (aC hx2 (aC hx2 (aC hx2 (aC hx2 aN))))) (by kernel_rfl) ?_
    refine W_cond true (by kernel_rfl) (fun _ => ?_) (fun hb => nomatch ((rfl : true = true).symm.trans hb))
    refine W_seq ?_
    refine W_y (s' := LS.mk 65 [(8, aI .i64 3), (9, .ptr 9 0)] [(9, some (.box 33 [aI .i64 a0.Room, aI .i64 a0.Cells, .t (.sl 4 (a0.L.map c_GApiObj))]))]) mixed [qn0, qn0, qn0] ⟨[8, 9], [], [9], [], [], [], []⟩ aN (by kernel_rfl) ?_
    refine W_ret ?_
    exact kr [] _ _ (by kernel_rfl) (Option.some.inj h)
  · have hx2 := hb1
    have h := if_f h hx2
    obtain ⟨r1_6, hr1_6, h⟩ := bind_ok h
    have hr1_6 := hindcastref11_H_Names_ok hr1_6
    refine W_y (s' := LS.mk 65 [(2, aI .i64 a2), (4, .ptr 4 0), (5, .ptr 5 0), (7, .ptr 7 0), (9, .ptr 9 0), (21, aB (!r1_6))] [(4, some (.box 33 [aI .i64 a0.Room, aI .i64 a0.Cells, .t (.sl 4 (a0.L.map c_GApiObj))])), (5, some (.box 46 [aI .u8 a1.Kind, aI .i64 a1.N, aI .i64 a1.Re, aI .i64 a1.Im])), (7, some (.box 46 [aI .u8 a3.Kind, aI .i64 a3.N, aI .i64 a3.Re, aI .i64 a3.Im])), (9, some (.box 33 [aI .i64 0, aI .i64 0, aNil]))]) mixed [qn0, qn0, qn0, qn0, qf0, qf0, qf (.call [] (aB r1_6)), qf0, qn (.dec false)] ⟨[2, 4, 5, 7, 9, 21], [], [4, 5, 7, 9], [], [], [], []⟩ (aC hx2 (aC hx2 (aC hx2 (aC hr1_6 (aC hx2 (aC hx2 aN)))))) (by kernel_rfl) ?_
    refine W_cond (!r1_6) (by kernel_rfl) (fun hb3 => ?_) (fun hb3 => ?_)
    · have hx4 : r1_6 = false := (bnot_t hb3)
      have h := ib_f h hx4
      refine W_seq ?_
      refine W_y (s' := LS.mk 65 [(8, aI .i64 3), (9, .ptr 9 0)] [(9, some (.box 33 [aI .i64 a0.Room, aI .i64 a0.Cells, .t (.sl 4 (a0.L.map c_GApiObj))]))]) mixed [qn0, qn0, qn0] ⟨[8, 9], [], [9], [], [], [], []⟩ aN (by kernel_rfl) ?_
      refine W_ret ?_
      exact kr [] _ _ (by kernel_rfl) (Option.some.inj h)
    · have hx4 : r1_6 = true := (bnot_f hb3)
      have h := ib_t h hx4
      refine W_skip ?_
      refine W_seq ?_
      obtain ⟨x3_5, hx3_5, h⟩ := bind_ok h
      refine W_y (s' := LS.mk 65 [(2, aI .i64 a2), (4, .ptr 4 0), (5, .ptr 5 0), (7, .ptr 7 0), (9, .ptr 9 0), (10, .ptr 10 0)] [(4, some (.box 33 [aI .i64 a0.Room, aI .i64 a0.Cells, .t (.sl 4 (a0.L.map c_GApiObj))])), (5, some (.box 46 [aI .u8 a1.Kind, aI .i64 a1.N, aI .i64 a1.Re, aI .i64 a1.Im])), (7, some (.box 46 [aI .u8 a3.Kind, aI .i64 a3.N, aI .i64 a3.Re, aI .i64 a3.Im])), (9, some (.box 33 [aI .i64 0, aI .i64 0, aNil])), (10, some (.box 27 [aI .u8 x3_5.Kind, aI .i64 x3_5.Of, aS x3_5.Text, .t (.sl 4 (x3_5.Vals.map c_GApiValue))]))]) mixed [qn0, qn0, qn0, qn0, qn0, qn (.ix (Int.toNat (w64 (a1.N - 1))) (c_GApiObj x3_5)), qn0, qn0, qn0] ⟨[2, 4, 5, 7, 9, 10], [], [4, 5, 7, 9, 10], [], [], [], []⟩ (aC (ix_obx c_GApiObj hx3_5) aN) (by kernel_rfl) ?_
      refine W_seq ?_
      refine W_seq ?_
      refine (Bool.eq_false_or_eq_true (decide (a2 < 0))).elim (fun hb5 => ?_) (fun hb5 => ?_)
      · have hx6 := hb5
        have h := if_t h hx6
        refine W_y (s' := LS.mk 65 [(2, aI .i64 a2), (4, .ptr 4 0), (5, .ptr 5 0), (7, .ptr 7 0), (9, .ptr 9 0), (10, .ptr 10 0), (38, aB true)] [(4, some (.box 33 [aI .i64 a0.Room, aI .i64 a0.Cells, .t (.sl 4 (a0.L.map c_GApiObj))])), (5, some (.box 46 [aI .u8 a1.Kind, aI .i64 a1.N, aI .i64 a1.Re, aI .i64 a1.Im])), (7, some (.box 46 [aI .u8 a3.Kind, aI .i64 a3.N, aI .i64 a3.Re, aI .i64 a3.Im])), (9, some (.box 33 [aI .i64 0, aI .i64 0, aNil])), (10, some (.box 27 [aI .u8 x3_5.Kind, aI .i64 x3_5.Of, aS x3_5.Text, .t (.sl 4 (x3_5.Vals.map c_GApiValue))]))]) mixed [qn0, qn0, qn0, qt0, qt0, qt0, qt0, qt0, qn (.dec true)] ⟨[2, 4, 5, 7, 9, 10, 38], [], [4, 5, 7, 9, 10], [], [], [], []⟩ (aC hx6 (aC hx6 (aC hx6 (aC hx6 (aC hx6 (aC hx6 aN)))))) (by kernel_rfl) ?_
        refine W_cond true (by kernel_rfl) (fun _ => ?_) (fun hb => nomatch ((rfl : true = true).symm.trans hb))
        refine W_seq ?_
        refine W_y (s' := LS.mk 65 [(8, aI .i64 2), (9, .ptr 9 0)] [(9, some (.box 33 [aI .i64 a0.Room, aI .i64 a0.Cells, .t (.sl 4 (a0.L.map c_GApiObj))]))]) mixed [qn0, qn0, qn0] ⟨[8, 9], [], [9], [], [], [], []⟩ aN (by kernel_rfl) ?_
        refine W_ret ?_
        exact kr [] _ _ (by kernel_rfl) (Option.some.inj h)
      · have hx6 := hb5
        have h := if_f h hx6
        refine W_y (s' := LS.mk 65 [(2, aI .i64 a2), (4, .ptr 4 0), (5, .ptr 5 0), (7, .ptr 7 0), (9, .ptr 9 0), (10, .ptr 10 0), (38, aB (decide (a2 ≥ (x3_5.Vals.length : Int))))] [(4, some (.box 33 [aI .i64 a0.Room, aI .i64 a0.Cells, .t (.sl 4 (a0.L.map c_GApiObj))])), (5, some (.box 46 [aI .u8 a1.Kind, aI .i64 a1.N, aI .i64 a1.Re, aI .i64 a1.Im])), (7, some (.box 46 [aI .u8 a3.Kind, aI .i64 a3.N, aI .i64 a3.Re, aI .i64 a3.Im])), (9, some (.box 33 [aI .i64 0, aI .i64 0, aNil])), (10, some (.box 27 [aI .u8 x3_5.Kind, aI .i64 x3_5.Of, aS x3_5.Text, .t (.sl 4 (x3_5.Vals.map c_GApiValue))]))]) mixed [qn0, qn0, qn0, qf0, qf0, qf0, qf (.len x3_5.Vals.length), qf0, qn (.dec false)] ⟨[2, 4, 5, 7, 9, 10, 38], [], [4, 5, 7, 9, 10], [], [], [], []⟩ (aC hx6 (aC hx6 (aC hx6 (aC hx6 (aC (len_obx c_GApiValue x3_5.Vals) (aC hx6 (aC hx6 aN))))))) (by kernel_rfl) ?_
        refine W_cond (decide (a2 ≥ (x3_5.Vals.length : Int))) (by kernel_rfl) (fun hb7 => ?_) (fun hb7 => ?_)
        · have hx8 := hb7
          have h := if_t h hx8
          refine W_seq ?_
          refine W_y (s' := LS.mk 65 [(8, aI .i64 2), (9, .ptr 9 0)] [(9, some (.box 33 [aI .i64 a0.Room, aI .i64 a0.Cells, .t (.sl 4 (a0.L.map c_GApiObj))]))]) mixed [qn0, qn0, qn0] ⟨[8, 9], [], [9], [], [], [], []⟩ aN (by kernel_rfl) ?_
          refine W_ret ?_
          exact kr [] _ _ (by kernel_rfl) (Option.some.inj h)
        · have hx8 := hb7
          have h := if_f h hx8
          refine W_skip ?_
          refine W_seq ?_
          refine W_y (s' := LS.mk 65 [(2, aI .i64 a2), (4, .ptr 4 0), (5, .ptr 5 0), (7, .ptr 7 0), (9, .ptr 9 0), (10, .ptr 10 0), (11, .ref 1011)] [(4, some (.box 33 [aI .i64 a0.Room, aI .i64 a0.Cells, .t (.sl 4 (a0.L.map c_GApiObj))])), (5, some (.box 46 [aI .u8 a1.Kind, aI .i64 a1.N, aI .i64 a1.Re, aI .i64 a1.Im])), (7, some (.box 46 [aI .u8 a3.Kind, aI .i64 a3.N, aI .i64 a3.Re, aI .i64 a3.Im])), (9, some (.box 33 [aI .i64 0, aI .i64 0, aNil])), (10, some (.box 27 [aI .u8 x3_5.Kind, aI .i64 x3_5.Of, aS x3_5.Text, .t (.sl 4 (x3_5.Vals.map c_GApiValue))])), (1011, some (.row 46 4 (([] : List GApiValue).map c_GApiValue)))]) mixed [qn0, qn0] ⟨[2, 4, 5, 7, 9, 10, 11], [], [4, 5, 7, 9, 10], [], [(40, 1011)], [], []⟩ aN (by kernel_rfl) ?_
          refine W_seq ?_
          obtain ⟨hd9, h⟩ := ite_ok h
          refine W_y (s' := LS.mk 65 [(2, aI .i64 a2), (4, .ptr 4 0), (5, .ptr 5 0), (7, .ptr 7 0), (9, .ptr 9 0), (10, .ptr 10 0), (11, .ref 1011)] [(4, some (.box 33 [aI .i64 a0.Room, aI .i64 a0.Cells, .t (.sl 4 (a0.L.map c_GApiObj))])), (5, some (.box 46 [aI .u8 a1.Kind, aI .i64 a1.N, aI .i64 a1.Re, aI .i64 a1.Im])), (7, some (.box 46 [aI .u8 a3.Kind, aI .i64 a3.N, aI .i64 a3.Re, aI .i64 a3.Im])), (9, some (.box 33 [aI .i64 0, aI .i64 0, aNil])), (10, some (.box 27 [aI .u8 x3_5.Kind, aI .i64 x3_5.Of, aS x3_5.Text, .t (.sl 4 (x3_5.Vals.map c_GApiValue))])), (1011, some (.row 46 4 ((([] : List GApiValue) ++ x3_5.Vals).map c_GApiValue)))]) mixed [qn0, qn0, qn0, qn (.rows ((([] : List GApiValue) ++ x3_5.Vals).map c_GApiValue)), qn0] ⟨[2, 4, 5, 7, 9, 10, 11], [], [4, 5, 7, 9, 10], [], [(44, 1011)], [], []⟩ (aC (ap_obx c_GApiValue hd9) (aC (app_obx c_GApiValue ([] : List GApiValue) x3_5.Vals) aN)) (by kernel_rfl) ?_
          refine W_seq ?_
          obtain ⟨x8_3, hx8_3, h⟩ := bind_ok h
          have hx10 := getI_set hx8_3 a3
          refine W_y (s' := LS.mk 65 [(4, .ptr 4 0), (5, .ptr 5 0), (9, .ptr 9 0), (10, .ptr 10 0), (11, .ref 1011)] [(4, some (.box 33 [aI .i64 a0.Room, aI .i64 a0.Cells, .t (.sl 4 (a0.L.map c_GApiObj))])), (5, some (.box 46 [aI .u8 a1.Kind, aI .i64 a1.N, aI .i64 a1.Re, aI .i64 a1.Im])), (9, some (.box 33 [aI .i64 0, aI .i64 0, aNil])), (10, some (.box 27 [aI .u8 x3_5.Kind, aI .i64 x3_5.Of, aS x3_5.Text, .t (.sl 4 (x3_5.Vals.map c_GApiValue))])), (1011, some (.row 46 4 (((([] : List GApiValue) ++ x3_5.Vals).set (Int.toNat a2) a3).map c_GApiValue)))]) mixed [qn0, qn0, qn0, qn (.ix (Int.toNat a2) (c_GApiValue x8_3)), qn (.set (c_GApiValue x8_3) (((([] : List GApiValue) ++ x3_5.Vals).set (Int.toNat a2) a3).map c_GApiValue))] ⟨[4, 5, 9, 10, 11], [], [4, 5, 9, 10], [], [(1011, 1011)], [], []⟩ (aC (ix_obx c_GApiValue hx8_3) (aC (el_obx c_GApiValue hx8_3) (aC (set_obx c_GApiValue (([] : List GApiValue) ++ x3_5.Vals) (Int.toNat a2) a3) aN))) (by kernel_rfl) ?_
          refine W_seq ?_
          refine W_y (s' := LS.mk 65 [(4, .ptr 4 0), (5, .ptr 5 0), (9, .ptr 9 0), (10, .ptr 10 0)] [(4, some (.box 33 [aI .i64 a0.Room, aI .i64 a0.Cells, .t (.sl 4 (a0.L.map c_GApiObj))])), (5, some (.box 46 [aI .u8 a1.Kind, aI .i64 a1.N, aI .i64 a1.Re, aI .i64 a1.Im])), (9, some (.box 33 [aI .i64 0, aI .i64 0, aNil])), (10, some (.box 27 [aI .u8 x3_5.Kind, aI .i64 x3_5.Of, aS x3_5.Text, .ref 101003])), (101003, some (.row 46 4 (((([] : List GApiValue) ++ x3_5.Vals).set (Int.toNat a2) a3).map c_GApiValue)))]) mixed [qn0, qn0, qn0] ⟨[4, 5, 9, 10], [], [4, 5, 9, 10], [], [(1011, 101003)], [], []⟩ aN (by kernel_rfl) ?_
          refine W_seq ?_
          refine W_y (s' := LS.mk 65 [(4, .ptr 4 0), (5, .ptr 5 0), (9, .ptr 9 0), (10, .ptr 10 0), (12, .ref 1012)] [(4, some (.box 33 [aI .i64 a0.Room, aI .i64 a0.Cells, .t (.sl 4 (a0.L.map c_GApiObj))])), (5, some (.box 46 [aI .u8 a1.Kind, aI .i64 a1.N, aI .i64 a1.Re, aI .i64 a1.Im])), (9, some (.box 33 [aI .i64 0, aI .i64 0, aNil])), (10, some (.box 27 [aI .u8 x3_5.Kind, aI .i64 x3_5.Of, aS x3_5.Text, .ref 101003])), (1012, some (.row 27 4 (([] : List GApiObj).map c_GApiObj))), (101003, some (.row 46 4 (((([] : List GApiValue) ++ x3_5.Vals).set (Int.toNat a2) a3).map c_GApiValue)))]) mixed [qn0, qn0] ⟨[4, 5, 9, 10, 12], [], [4, 5, 9, 10], [], [(51, 1012), (101003, 101003)], [], []⟩ aN (by kernel_rfl) ?_
          refine W_seq ?_
          obtain ⟨hd11, h⟩ := ite_ok h
          refine W_y (s' := LS.mk 65 [(4, .ptr 4 0), (5, .ptr 5 0), (9, .ptr 9 0), (10, .ptr 10 0), (12, .ref 1012)] [(4, some (.box 33 [aI .i64 a0.Room, aI .i64 a0.Cells, .t (.sl 4 (a0.L.map c_GApiObj))])), (5, some (.box 46 [aI .u8 a1.Kind, aI .i64 a1.N, aI .i64 a1.Re, aI .i64 a1.Im])), (9, some (.box 33 [aI .i64 0, aI .i64 0, aNil])), (10, some (.box 27 [aI .u8 x3_5.Kind, aI .i64 x3_5.Of, aS x3_5.Text, .ref 101003])), (1012, some (.row 27 4 ((([] : List GApiObj) ++ a0.L).map c_GApiObj))), (101003, some (.row 46 4 (((([] : List GApiValue) ++ x3_5.Vals).set (Int.toNat a2) a3).map c_GApiValue)))]) mixed [qn0, qn0, qn0, qn (.rows ((([] : List GApiObj) ++ a0.L).map c_GApiObj)), qn0] ⟨[4, 5, 9, 10, 12], [], [4, 5, 9, 10], [], [(55, 1012), (101003, 101003)], [], []⟩ (aC (ap_obx c_GApiObj hd11) (aC (app_obx c_GApiObj ([] : List GApiObj) a0.L) aN)) (by kernel_rfl) ?_
          refine W_seq ?_
          obtain ⟨x12_5, hx12_5, h⟩ := bind_ok h
          have hx12 := getI_set hx12_5 (GApiObj.mk x3_5.Kind x3_5.Of x3_5.Text ((([] : List GApiValue) ++ x3_5.Vals).set (Int.toNat a2) a3))
          refine W_y (s' := LS.mk 65 [(4, .ptr 4 0), (9, .ptr 9 0), (12, .ref 1012)] [(4, some (.box 33 [aI .i64 a0.Room, aI .i64 a0.Cells, .t (.sl 4 (a0.L.map c_GApiObj))])), (9, some (.box 33 [aI .i64 0, aI .i64 0, aNil])), (1012, some (.row 27 4 (((([] : List GApiObj) ++ a0.L).set (Int.toNat (w64 (a1.N - 1))) (GApiObj.mk x3_5.Kind x3_5.Of x3_5.Text ((([] : List GApiValue) ++ x3_5.Vals).set (Int.toNat a2) a3))).map c_GApiObj)))]) mixed [qn0, qn0, qn0, qn0, qn0, qn (.ix (Int.toNat (w64 (a1.N - 1))) (c_GApiObj x12_5)), (none, [101003], .set (c_GApiObj x12_5) (((([] : List GApiObj) ++ a0.L).set (Int.toNat (w64 (a1.N - 1))) (GApiObj.mk x3_5.Kind x3_5.Of x3_5.Text ((([] : List GApiValue) ++ x3_5.Vals).set (Int.toNat a2) a3))).map c_GApiObj))] ⟨[4, 9, 12], [], [4, 9], [], [(1012, 1012)], [], []⟩ (aC (ix_obx c_GApiObj hx12_5) (aC (el_obx c_GApiObj hx12_5) (aC (set_obx c_GApiObj (([] : List GApiObj) ++ a0.L) (Int.toNat (w64 (a1.N - 1))) (GApiObj.mk x3_5.Kind x3_5.Of x3_5.Text ((([] : List GApiValue) ++ x3_5.Vals).set (Int.toNat a2) a3))) aN))) (by kernel_rfl) ?_
          refine W_seq ?_
          refine W_y (s' := LS.mk 65 [(4, .ptr 4 0), (9, .ptr 9 0)] [(4, some (.box 33 [aI .i64 a0.Room, aI .i64 a0.Cells, .ref 100402])), (9, some (.box 33 [aI .i64 0, aI .i64 0, aNil])), (100402, some (.row 27 4 (((([] : List GApiObj) ++ a0.L).set (Int.toNat (w64 (a1.N - 1))) (GApiObj.mk x3_5.Kind x3_5.Of x3_5.Text ((([] : List GApiValue) ++ x3_5.Vals).set (Int.toNat a2) a3))).map c_GApiObj)))]) mixed [qn0, qn0, qn0] ⟨[4, 9], [], [4, 9], [], [(1012, 100402)], [], []⟩ aN (by kernel_rfl) ?_
          refine W_seq ?_
          refine W_y (s' := LS.mk 65 [(8, aI .i64 0), (9, .ptr 9 0)] [(9, some (.box 33 [aI .i64 a0.Room, aI .i64 a0.Cells, .ref 100902])), (100902, some (.row 27 4 (((([] : List GApiObj) ++ a0.L).set (Int.toNat (w64 (a1.N - 1))) (GApiObj.mk x3_5.Kind x3_5.Of x3_5.Text ((([] : List GApiValue) ++ x3_5.Vals).set (Int.toNat a2) a3))).map c_GApiObj)))]) mixed [qn0, qn0, qn0] ⟨[8, 9], [], [9], [], [(100402, 100902)], [], []⟩ aN (by kernel_rfl) ?_
          refine W_ret ?_
          exact kr [] _ _ (by kernel_rfl) (Option.some.inj h)
def R_hindcastref11_H_Text (a0 : GHindcastref11H) (a1 : GApiValue) (r : ((List UInt8) × Bool)) : Prop := FnP Try.prog 39 [e_GHindcastref11H a0, e_GApiValue a1] (.tup [aS r.1, aB r.2])
noncomputable def hindcastref11_H_Text (a0 : GHindcastref11H) (a1 : GApiValue) : Option ((List UInt8) × Bool) :=
  (if a1.Kind = 3 then (if a1.N = 0 then (some (([] : List UInt8), true)) else ((hindcastref11_H_Names a0 a1).bind fun (r5_2 : Bool) => (if r5_2 = true then ((getI a0.L (w64 (a1.N - 1))).bind fun (x7_5 : GApiObj) => (some (x7_5.Text, true))) else (some (([] : List UInt8), false))))) else (some (([] : List UInt8), false)))
set_option maxRecDepth 100000 in
theorem hindcastref11_H_Text_ok {a0 : GHindcastref11H} {a1 : GApiValue} {r_ : ((List UInt8) × Bool)} (h : hindcastref11_H_Text a0 a1 = some r_) : R_hindcastref11_H_Text a0 a1 r_ := by
  unfold hindcastref11_H_Text at h
  refine fn_pureX (fn := Try.f39) (by kernel_rfl) (c := subC (bodyC Try.prog 39) []) (by kernel_rfl) (by kernel_rfl) (Nat.le_of_ble_eq_true (by kernel_rfl)) ?_
  generalize hQ' : retQ Try.prog Try.f39 (.tup [aS r_.1, aB r_.2]) = Q'
  have kr : ∀ (ns : List (Nat × Nat × Nat)) (s : LS) (x : ((List UInt8) × Bool)), retX Try.prog ns [.tmp 4, .tmp 5] s = some (.tup [aS x.1, aB x.2]) → x = r_ → Q' .ret s.st := by subst hQ'; intro ns s x hx hq; subst hq; exact ret_ok (fn := Try.f39) ns hx
  change W Try.prog _ (LS.mk 24 [(0, e_GHindcastref11H a0), (1, e_GApiValue a1)] []).st Q'
  refine W_seq ?_
  refine W_y (s' := LS.mk 24 [(2, .ptr 2 0), (3, .ptr 3 0)] [(2, some (.box 33 [aI .i64 a0.Room, aI .i64 a0.Cells, .t (.sl 4 (a0.L.map c_GApiObj))])), (3, some (.box 46 [aI .u8 a1.Kind, aI .i64 a1.N, aI .i64 a1.Re, aI .i64 a1.Im]))]) mixed [qn0, qn0, qn0, qn0] ⟨[2, 3], [], [2, 3], [], [], [], []⟩ aN (by kernel_rfl) ?_
  refine W_seq ?_
  refine W_seq ?_
  refine W_y (s' := LS.mk 24 [(2, .ptr 2 0), (3, .ptr 3 0), (8, aB (!(decide (a1.Kind = 3))))] [(2, some (.box 33 [aI .i64 a0.Room, aI .i64 a0.Cells, .t (.sl 4 (a0.L.map c_GApiObj))])), (3, some (.box 46 [aI .u8 a1.Kind, aI .i64 a1.N, aI .i64 a1.Re, aI .i64 a1.Im]))]) mixed [qn0, qn0, qn0] ⟨[2, 3, 8], [], [2, 3], [], [], [], []⟩ aN (by kernel_rfl) ?_
  refine W_cond (!(decide (a1.Kind = 3))) (by kernel_rfl) (fun hb1 => ?_) (fun hb1 => ?_)
  · have hx2 : (decide (a1.Kind = 3)) = false := (bnot_t hb1)
    have h := if_f h hx2
    refine W_seq ?_
    refine W_y (s' := LS.mk 24 [(4, aS ([] : List UInt8)), (5, aB false)] []) mixed [qn0, qn0] ⟨[4, 5], [], [], [], [], [], []⟩ aN (by kernel_rfl) ?_
    refine W_ret ?_
    exact kr [] _ _ (by kernel_rfl) (Option.some.inj h)
  · have hx2 : (decide (a1.Kind = 3)) = true := (bnot_f hb1)
    have h := if_t h hx2
    refine W_skip ?_
    refine W_seq ?_
    refine W_seq ?_
    refine W_y (s' := LS.mk 24 [(2, .ptr 2 0), (3, .ptr 3 0), (11, aB (decide (a1.N = 0)))] [(2, some (.box 33 [aI .i64 a0.Room, aI .i64 a0.Cells, .t (.sl 4 (a0.L.map c_GApiObj))])), (3, some (.box 46 [aI .u8 a1.Kind, aI .i64 a1.N, aI .i64 a1.Re, aI .i64 a1.Im]))]) mixed [qn0, qn0, qn0] ⟨[2, 3, 11], [], [2, 3], [], [], [], []⟩ aN (by kernel_rfl) ?_
    refine W_cond (decide (a1.N = 0)) (by kernel_rfl) (fun hb3 => ?_) (fun hb3 => ?_)
    · have hx4 := hb3
      have h := if_t h hx4
      refine W_seq ?_
      refine W_y (s' := LS.mk 24 [(4, aS ([] : List UInt8)), (5, aB true)] []) mixed [qn0, qn0] ⟨[4, 5], [], [], [], [], [], []⟩ aN (by kernel_rfl) ?_
      refine W_ret ?_
      exact kr [] _ _ (by kernel_rfl) (Option.some.inj h)
    · have hx4 := hb3
      have h := if_f h hx4
      refine W_skip ?_
      refine W_seq ?_
      refine W_seq ?_
      obtain ⟨r5_2, hr5_2, h⟩ := bind_ok h
      have hr5_2 := hindcastref11_H_Names_ok hr5_2
      refine W_y (s' := LS.mk 24 [(2, .ptr 2 0), (3, .ptr 3 0), (15, aB (!r5_2))] [(2, some (.box 33 [aI .i64 a0.Room, aI .i64 a0.Cells, .t (.sl 4 (a0.L.map c_GApiObj))])), (3, some (.box 46 [aI .u8 a1.Kind, aI .i64 a1.N, aI .i64 a1.Re, aI .i64 a1.Im]))]) mixed [qn0, qn0, qn (.call [] (aB r5_2)), qn0] ⟨[2, 3, 15], [], [2, 3], [], [], [], []⟩ (aC hr5_2 aN) (by kernel_rfl) ?_
      refine W_cond (!r5_2) (by kernel_rfl) (fun hb5 => ?_) (fun hb5 => ?_)
      · have hx6 : r5_2 = false := (bnot_t hb5)
        have h := ib_f h hx6
        refine W_seq ?_
        refine W_y (s' := LS.mk 24 [(4, aS ([] : List UInt8)), (5, aB false)] []) mixed [qn0, qn0] ⟨[4, 5], [], [], [], [], [], []⟩ aN (by kernel_rfl) ?_
        refine W_ret ?_
        exact kr [] _ _ (by kernel_rfl) (Option.some.inj h)
      · have hx6 : r5_2 = true := (bnot_f hb5)
        have h := ib_t h hx6
        refine W_skip ?_
        refine W_seq ?_
        obtain ⟨x7_5, hx7_5, h⟩ := bind_ok h
        refine W_y (s' := LS.mk 24 [(4, aS x7_5.Text), (5, aB true)] []) mixed [qn0, qn0, qn0, qn0, qn0, qn (.ix (Int.toNat (w64 (a1.N - 1))) (c_GApiObj x7_5)), qn0, qn0, qn0, qn0] ⟨[4, 5], [], [], [], [], [], []⟩ (aC (ix_obx c_GApiObj hx7_5) aN) (by kernel_rfl) ?_
        refine W_ret ?_
        exact kr [] _ _ (by kernel_rfl) (Option.some.inj h)
def R_hindcastref11_H_Size (a0 : GHindcastref11H) (a1 : GApiValue) (r : (Int × Int)) : Prop := FnP Try.prog 40 [e_GHindcastref11H a0, e_GApiValue a1] (.tup [aI .i64 r.1, aI .i64 r.2])
noncomputable def hindcastref11_H_Size (a0 : GHindcastref11H) (a1 : GApiValue) : Option (Int × Int) :=
  ((hindcastref11_H_Text a0 a1).bind fun (r1_2 : ((List UInt8) × Bool)) => (if r1_2.2 = true then (some ((r1_2.1.length : Int), 0)) else ((hindcastref11_H_Names a0 a1).bind fun (r4_2 : Bool) => (if r4_2 = true then ((getI a0.L (w64 (a1.N - 1))).bind fun (x6_5 : GApiObj) => (some ((x6_5.Vals.length : Int), 0))) else (some (0, 3))))))
set_option maxRecDepth 100000 in
theorem hindcastref11_H_Size_ok {a0 : GHindcastref11H} {a1 : GApiValue} {r_ : (Int × Int)} (h : hindcastref11_H_Size a0 a1 = some r_) : R_hindcastref11_H_Size a0 a1 r_ := by
  unfold hindcastref11_H_Size at h
  refine fn_pureX (fn := Try.f40) (by kernel_rfl) (c := subC (bodyC Try.prog 40) []) (by kernel_rfl) (by kernel_rfl) (Nat.le_of_ble_eq_true (by kernel_rfl)) ?_
  generalize hQ' : retQ Try.prog Try.f40 (.tup [aI .i64 r_.1, aI .i64 r_.2]) = Q'
  have kr : ∀ (ns : List (Nat × Nat × Nat)) (s : LS) (x : (Int × Int)), retX Try.prog ns [.tmp 4, .tmp 5] s = some (.tup [aI .i64 x.1, aI .i64 x.2]) → x = r_ → Q' .ret s.st := by subst hQ'; intro ns s x hx hq; subst hq; exact ret_ok (fn := Try.f40) ns hx
  change W Try.prog _ (LS.mk 30 [(0, e_GHindcastref11H a0), (1, e_GApiValue a1)] []).st Q'
  refine W_seq ?_
  refine W_y (s' := LS.mk 30 [(2, .ptr 2 0), (3, .ptr 3 0)] [(2, some (.box 33 [aI .i64 a0.Room, aI .i64 a0.Cells, .t (.sl 4 (a0.L.map c_GApiObj))])), (3, some (.box 46 [aI .u8 a1.Kind, aI .i64 a1.N, aI .i64 a1.Re, aI .i64 a1.Im]))]) mixed [qn0, qn0, qn0, qn0] ⟨[2, 3], [], [2, 3], [], [], [], []⟩ aN (by kernel_rfl) ?_
  refine W_seq ?_
  obtain ⟨r1_2, hr1_2, h⟩ := bind_ok h
  have hr1_2 := hindcastref11_H_Text_ok hr1_2
  refine W_y (s' := LS.mk 30 [(2, .ptr 2 0), (3, .ptr 3 0), (6, aS r1_2.1), (7, aB r1_2.2)] [(2, some (.box 33 [aI .i64 a0.Room, aI .i64 a0.Cells, .t (.sl 4 (a0.L.map c_GApiObj))])), (3, some (.box 46 [aI .u8 a1.Kind, aI .i64 a1.N, aI .i64 a1.Re, aI .i64 a1.Im]))]) mixed [qn0, qn0, qn (.call [] (.tup [aS r1_2.1, aB r1_2.2])), qn0, qn0, qn0, qn0, qn0] ⟨[2, 3, 6, 7], [], [2, 3], [], [], [], []⟩ (aC hr1_2 aN) (by kernel_rfl) ?_
  refine W_seq ?_
  refine W_seq ?_
  refine W_y (s' := LS.mk 30 [(2, .ptr 2 0), (3, .ptr 3 0), (6, aS r1_2.1), (14, aB r1_2.2)] [(2, some (.box 33 [aI .i64 a0.Room, aI .i64 a0.Cells, .t (.sl 4 (a0.L.map c_GApiObj))])), (3, some (.box 46 [aI .u8 a1.Kind, aI .i64 a1.N, aI .i64 a1.Re, aI .i64 a1.Im]))]) mixed [qn0] ⟨[2, 3, 6, 14], [], [2, 3], [], [], [], []⟩ aN (by kernel_rfl) ?_
  refine W_cond r1_2.2 (by kernel_rfl) (fun hb1 => ?_) (fun hb1 => ?_)
  · have hx2 := hb1
    have h := ib_t h hx2
    refine W_seq ?_
    refine W_y (s' := LS.mk 30 [(4, aI .i64 (r1_2.1.length : Int)), (5, aI .i64 0)] []) mixed [qn0, qn0, qn0, qn0] ⟨[4, 5], [], [], [], [], [], []⟩ aN (by kernel_rfl) ?_
    refine W_ret ?_
    exact kr [] _ _ (by kernel_rfl) (Option.some.inj h)
  · have hx2 := hb1
    have h := ib_f h hx2
    refine W_skip ?_
    refine W_seq ?_
    refine W_seq ?_
    obtain ⟨r4_2, hr4_2, h⟩ := bind_ok h
    have hr4_2 := hindcastref11_H_Names_ok hr4_2
    refine W_y (s' := LS.mk 30 [(2, .ptr 2 0), (3, .ptr 3 0), (20, aB (!r4_2))] [(2, some (.box 33 [aI .i64 a0.Room, aI .i64 a0.Cells, .t (.sl 4 (a0.L.map c_GApiObj))])), (3, some (.box 46 [aI .u8 a1.Kind, aI .i64 a1.N, aI .i64 a1.Re, aI .i64 a1.Im]))]) mixed [qn0, qn0, qn (.call [] (aB r4_2)), qn0] ⟨[2, 3, 20], [], [2, 3], [], [], [], []⟩ (aC hr4_2 aN) (by kernel_rfl) ?_
    refine W_cond (!r4_2) (by kernel_rfl) (fun hb3 => ?_) (fun hb3 => ?_)
    · have hx4 : r4_2 = false := (bnot_t hb3)
      have h := ib_f h hx4
      refine W_seq ?_
      refine W_y (s' := LS.mk 30 [(4, aI .i64 0), (5, aI .i64 3)] []) mixed [qn0, qn0] ⟨[4, 5], [], [], [], [], [], []⟩ aN (by kernel_rfl) ?_
      refine W_ret ?_
      exact kr [] _ _ (by kernel_rfl) (Option.some.inj h)
    · have hx4 : r4_2 = true := (bnot_f hb3)
      have h := ib_t h hx4
      refine W_skip ?_
      refine W_seq ?_
      obtain ⟨x6_5, hx6_5, h⟩ := bind_ok h
      refine W_y (s' := LS.mk 30 [(4, aI .i64 (x6_5.Vals.length : Int)), (5, aI .i64 0)] []) mixed [qn0, qn0, qn0, qn0, qn0, qn (.ix (Int.toNat (w64 (a1.N - 1))) (c_GApiObj x6_5)), qn0, qn0, qn (.len x6_5.Vals.length), qn0, qn0] ⟨[4, 5], [], [], [], [], [], []⟩ (aC (ix_obx c_GApiObj hx6_5) (aC (len_obx c_GApiValue x6_5.Vals) aN)) (by kernel_rfl) ?_
      refine W_ret ?_
      exact kr [] _ _ (by kernel_rfl) (Option.some.inj h)
def R_hindcastref11_H_Get (a0 : GHindcastref11H) (a1 : GApiValue) (a2 : Int) (r : (GApiValue × Int)) : Prop := FnP Try.prog 41 [e_GHindcastref11H a0, e_GApiValue a1, aI .i64 a2] (.tup [e_GApiValue r.1, aI .i64 r.2])
noncomputable def hindcastref11_H_Get (a0 : GHindcastref11H) (a1 : GApiValue) (a2 : Int) : Option (GApiValue × Int) :=
  ((hindcastref11_H_Size a0 a1).bind fun (r1_2 : (Int × Int)) => (if r1_2.2 = 0 then (if a2 < 0 then (some ((GApiValue.mk 0 0 0 0), 2)) else (if a2 ≥ r1_2.1 then (some ((GApiValue.mk 0 0 0 0), 2)) else ((hindcastref11_H_Text a0 a1).bind fun (r6_2 : ((List UInt8) × Bool)) => (if r6_2.2 = true then ((getI r6_2.1 a2).bind fun (x8_2 : UInt8) => (some ((GApiValue.mk 1 (w64 (x8_2.toNat : Int)) 0 0), 0))) else ((getI a0.L (w64 (a1.N - 1))).bind fun (x9_5 : GApiObj) => ((getI x9_5.Vals a2).bind fun (x9_9 : GApiValue) => (some (x9_9, 0)))))))) else (some ((GApiValue.mk 0 0 0 0), r1_2.2))))
set_option maxRecDepth 100000 in
theorem hindcastref11_H_Get_ok {a0 : GHindcastref11H} {a1 : GApiValue} {a2 : Int} {r_ : (GApiValue × Int)} (h : hindcastref11_H_Get a0 a1 a2 = some r_) : R_hindcastref11_H_Get a0 a1 a2 r_ := by
  unfold hindcastref11_H_Get at h
  refine fn_pureX (fn := Try.f41) (by kernel_rfl) (c := subC (bodyC Try.prog 41) []) (by kernel_rfl) (by kernel_rfl) (Nat.le_of_ble_eq_true (by kernel_rfl)) ?_
  generalize hQ' : retQ Try.prog Try.f41 (.tup [e_GApiValue r_.1, aI .i64 r_.2]) = Q'
  have kr : ∀ (ns : List (Nat × Nat × Nat)) (s : LS) (x : (GApiValue × Int)), retX Try.prog ns [.cell 6 46, .tmp 7] s = some (.tup [e_GApiValue x.1, aI .i64 x.2]) → x = r_ → Q' .ret s.st := by subst hQ'; intro ns s x hx hq; subst hq; exact ret_ok (fn := Try.f41) ns hx
  change W Try.prog _ (LS.mk 53 [(0, e_GHindcastref11H a0), (1, e_GApiValue a1), (2, aI .i64 a2)] []).st Q'
  refine W_seq ?_
  refine W_y (s' := LS.mk 53 [(2, aI .i64 a2), (3, .ptr 3 0), (4, .ptr 4 0), (6, .ptr 6 0)] [(3, some (.box 33 [aI .i64 a0.Room, aI .i64 a0.Cells, .t (.sl 4 (a0.L.map c_GApiObj))])), (4, some (.box 46 [aI .u8 a1.Kind, aI .i64 a1.N, aI .i64 a1.Re, aI .i64 a1.Im])), (6, some (.box 46 [aI .u8 0, aI .i64 0, aI .i64 0, aI .i64 0]))]) mixed [qn0, qn0, qn0, qn0] ⟨[2, 3, 4, 6], [], [3, 4, 6], [], [], [], []⟩ aN (by kernel_rfl) ?_
  refine W_seq ?_
  obtain ⟨r1_2, hr1_2, h⟩ := bind_ok h
  have hr1_2 := hindcastref11_H_Size_ok hr1_2
  refine W_y (s' := LS.mk 53 [(2, aI .i64 a2), (3, .ptr 3 0), (4, .ptr 4 0), (6, .ptr 6 0), (8, aI .i64 r1_2.1), (9, aI .i64 r1_2.2)] [(3, some (.box 33 [aI .i64 a0.Room, aI .i64 a0.Cells, .t (.sl 4 (a0.L.map c_GApiObj))])), (4, some (.box 46 [aI .u8 a1.Kind, aI .i64 a1.N, aI .i64 a1.Re, aI .i64 a1.Im])), (6, some (.box 46 [aI .u8 0, aI .i64 0, aI .i64 0, aI .i64 0]))]) mixed [qn0, qn0, qn (.call [] (.tup [aI .i64 r1_2.1, aI .i64 r1_2.2])), qn0, qn0, qn0, qn0, qn0] ⟨[2, 3, 4, 6, 8, 9], [], [3, 4, 6], [], [], [], []⟩ (aC hr1_2 aN) (by kernel_rfl) ?_
  refine W_seq ?_
  refine W_seq ?_
  refine W_y (s' := LS.mk 53 [(2, aI .i64 a2), (3, .ptr 3 0), (4, .ptr 4 0), (6, .ptr 6 0), (8, aI .i64 r1_2.1), (9, aI .i64 r1_2.2), (19, aB (!(decide (r1_2.2 = 0))))] [(3, some (.box 33 [aI .i64 a0.Room, aI .i64 a0.Cells, .t (.sl 4 (a0.L.map c_GApiObj))])), (4, some (.box 46 [aI .u8 a1.Kind, aI .i64 a1.N, aI .i64 a1.Re, aI .i64 a1.Im])), (6, some (.box 46 [aI .u8 0, aI .i64 0, aI .i64 0, aI .i64 0]))]) mixed [qn0, qn0] ⟨[2, 3, 4, 6, 8, 9, 19], [], [3, 4, 6], [], [], [], []⟩ aN (by kernel_rfl) ?_
  refine W_cond (!(decide (r1_2.2 = 0))) (by kernel_rfl) (fun hb1 => ?_) (fun hb1 => ?_)
  · have hx2 : (decide (r1_2.2 = 0)) = false := (bnot_t hb1)
    have h := if_f h hx2
    refine W_seq ?_
    refine W_y (s' := LS.mk 53 [(6, .ptr 6 0), (7, aI .i64 r1_2.2)] [(6, some (.box 46 [aI .u8 0, aI .i64 0, aI .i64 0, aI .i64 0]))]) mixed [qn0, qn0, qn0, qn0] ⟨[6, 7], [], [6], [], [], [], []⟩ aN (by kernel_rfl) ?_
    refine W_ret ?_
    exact kr [] _ _ (by kernel_rfl) (Option.some.inj h)
  · have hx2 : (decide (r1_2.2 = 0)) = true := (bnot_f hb1)
    have h := if_t h hx2
    refine W_skip ?_
    refine W_seq ?_
    refine W_seq ?_
    refine (Bool.eq_false_or_eq_true (decide (a2 < 0))).elim (fun hb3 => ?_) (fun hb3 => ?_)
    · have hx4 := hb3
      have h := if_t h hx4
      refine W_y (s' := LS.mk 53 [(2, aI .i64 a2), (3, .ptr 3 0), (4, .ptr 4 0), (6, .ptr 6 0), (28, aB true)] [(3, some (.box 33 [aI .i64 a0.Room, aI .i64 a0.Cells, .t (.sl 4 (a0.L.map c_GApiObj))])), (4, some (.box 46 [aI .u8 a1.Kind, aI .i64 a1.N, aI .i64 a1.Re, aI .i64 a1.Im])), (6, some (.box 46 [aI .u8 0, aI .i64 0, aI .i64 0, aI .i64 0]))]) mixed [qn0, qn0, qn0, qt0, qt0, qt0, qn (.dec true)] ⟨[2, 3, 4, 6, 28], [], [3, 4, 6], [], [], [], []⟩ (aC hx4 (aC hx4 (aC hx4 (aC hx4 aN)))) (by kernel_rfl) ?_
      refine W_cond true (by kernel_rfl) (fun _ => ?_) (fun hb => nomatch ((rfl : true = true).symm.trans hb))
      refine W_seq ?_
      refine W_y (s' := LS.mk 53 [(6, .ptr 6 0), (7, aI .i64 2)] [(6, some (.box 46 [aI .u8 0, aI .i64 0, aI .i64 0, aI .i64 0]))]) mixed [qn0, qn0, qn0] ⟨[6, 7], [], [6], [], [], [], []⟩ aN (by kernel_rfl) ?_
      refine W_ret ?_
      exact kr [] _ _ (by kernel_rfl) (Option.some.inj h)
    · have hx4 := hb3
      have h := if_f h hx4
      refine W_y (s' := LS.mk 53 [(2, aI .i64 a2), (3, .ptr 3 0), (4, .ptr 4 0), (6, .ptr 6 0), (28, aB (decide (a2 ≥ r1_2.1)))] [(3, some (.box 33 [aI .i64 a0.Room, aI .i64 a0.Cells, .t (.sl 4 (a0.L.map c_GApiObj))])), (4, some (.box 46 [aI .u8 a1.Kind, aI .i64 a1.N, aI .i64 a1.Re, aI .i64 a1.Im])), (6, some (.box 46 [aI .u8 0, aI .i64 0, aI .i64 0, aI .i64 0]))]) mixed [qn0, qn0, qn0, qf0, qf0, qf0, qn (.dec false)] ⟨[2, 3, 4, 6, 28], [], [3, 4, 6], [], [], [], []⟩ (aC hx4 (aC hx4 (aC hx4 (aC hx4 aN)))) (by kernel_rfl) ?_
      refine W_cond (decide (a2 ≥ r1_2.1)) (by kernel_rfl) (fun hb5 => ?_) (fun hb5 => ?_)
      · have hx6 := hb5
        have h := if_t h hx6
        refine W_seq ?_
        refine W_y (s' := LS.mk 53 [(6, .ptr 6 0), (7, aI .i64 2)] [(6, some (.box 46 [aI .u8 0, aI .i64 0, aI .i64 0, aI .i64 0]))]) mixed [qn0, qn0, qn0] ⟨[6, 7], [], [6], [], [], [], []⟩ aN (by kernel_rfl) ?_
        refine W_ret ?_
        exact kr [] _ _ (by kernel_rfl) (Option.some.inj h)
      · have hx6 := hb5
        have h := if_f h hx6
        refine W_skip ?_
        refine W_seq ?_
        obtain ⟨r6_2, hr6_2, h⟩ := bind_ok h
        have hr6_2 := hindcastref11_H_Text_ok hr6_2
        refine W_y (s' := LS.mk 53 [(2, aI .i64 a2), (3, .ptr 3 0), (4, .ptr 4 0), (6, .ptr 6 0), (10, aS r6_2.1), (11, aB r6_2.2)] [(3, some (.box 33 [aI .i64 a0.Room, aI .i64 a0.Cells, .t (.sl 4 (a0.L.map c_GApiObj))])), (4, some (.box 46 [aI .u8 a1.Kind, aI .i64 a1.N, aI .i64 a1.Re, aI .i64 a1.Im])), (6, some (.box 46 [aI .u8 0, aI .i64 0, aI .i64 0, aI .i64 0]))]) mixed [qn0, qn0, qn (.call [] (.tup [aS r6_2.1, aB r6_2.2])), qn0, qn0, qn0, qn0, qn0] ⟨[2, 3, 4, 6, 10, 11], [], [3, 4, 6], [], [], [], []⟩ (aC hr6_2 aN) (by kernel_rfl) ?_
        refine W_seq ?_
        refine W_seq ?_
        refine W_y (s' := LS.mk 53 [(2, aI .i64 a2), (3, .ptr 3 0), (4, .ptr 4 0), (6, .ptr 6 0), (10, aS r6_2.1), (36, aB r6_2.2)] [(3, some (.box 33 [aI .i64 a0.Room, aI .i64 a0.Cells, .t (.sl 4 (a0.L.map c_GApiObj))])), (4, some (.box 46 [aI .u8 a1.Kind, aI .i64 a1.N, aI .i64 a1.Re, aI .i64 a1.Im])), (6, some (.box 46 [aI .u8 0, aI .i64 0, aI .i64 0, aI .i64 0]))]) mixed [qn0] ⟨[2, 3, 4, 6, 10, 36], [], [3, 4, 6], [], [], [], []⟩ aN (by kernel_rfl) ?_
        refine W_cond r6_2.2 (by kernel_rfl) (fun hb7 => ?_) (fun hb7 => ?_)
        · have hx8 := hb7
          have h := ib_t h hx8
          refine W_seq ?_
          obtain ⟨x8_2, hx8_2, h⟩ := bind_ok h
          refine W_y (s' := LS.mk 53 [(6, .ptr 6 0), (7, aI .i64 0)] [(6, some (.box 46 [aI .u8 1, aI .i64 (w64 (x8_2.toNat : Int)), aI .i64 0, aI .i64 0]))]) mixed [qn0, qn0, qn (.sx (Int.toNat a2) x8_2), qn0, qn0, qn0, qn0] ⟨[6, 7], [], [6], [], [], [], []⟩ (aC (sx_ob hx8_2) aN) (by kernel_rfl) ?_
          refine W_ret ?_
          exact kr [] _ _ (by kernel_rfl) (Option.some.inj h)
        · have hx8 := hb7
          have h := ib_f h hx8
          refine W_skip ?_
          refine W_seq ?_
          obtain ⟨x9_5, hx9_5, h⟩ := bind_ok h
          obtain ⟨x9_9, hx9_9, h⟩ := bind_ok h
          refine W_y (s' := LS.mk 53 [(6, .ptr 6 0), (7, aI .i64 0)] [(6, some (.box 46 [aI .u8 x9_9.Kind, aI .i64 x9_9.N, aI .i64 x9_9.Re, aI .i64 x9_9.Im]))]) mixed [qn0, qn0, qn0, qn0, qn0, qn (.ix (Int.toNat (w64 (a1.N - 1))) (c_GApiObj x9_5)), qn0, qn0, qn0, qn (.ix (Int.toNat a2) (c_GApiValue x9_9)), qn0, qn0, qn0] ⟨[6, 7], [], [6], [], [], [], []⟩ (aC (ix_obx c_GApiObj hx9_5) (aC (ix_obx c_GApiValue hx9_9) aN)) (by kernel_rfl) ?_
          refine W_ret ?_
          exact kr [] _ _ (by kernel_rfl) (Option.some.inj h)
end Go.Proofs.Ytblikpgdepjhdaa
