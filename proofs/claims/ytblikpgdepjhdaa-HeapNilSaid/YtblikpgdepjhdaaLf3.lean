/- Functions of the program, lifted. -/
import Derived.Test.YtblikpgdepjhdaaLf2
namespace Go.Proofs.Ytblikpgdepjhdaa
open Go.RowKit
set_option linter.unusedVariables false
set_option maxHeartbeats 4000000
def R_hindcastlaw11_HeapPlays (a0 : Int) (a1 : (List GHindcastlaw11Op)) (r : Bool) : Prop := FnP Try.prog 4 [aI .i64 a0, .t (.sl 13 (a1.map c_GHindcastlaw11Op))] (aB r)
inductive hindcastlaw11_HeapPlays_C where
  | l0 (a1 : (List GHindcastlaw11Op)) (v0_8_0 : Int) (m0_7_0 : Int) (m0_7_1 : Int) (m0_7_2 : (List GApiObj)) (o0_1005 : GHeapHeap)
  | j1 (m0_7_0 : Int) (m0_7_1 : Int) (m0_7_2 : (List GApiObj)) (o0_1005 : GHeapHeap)
abbrev hindcastlaw11_HeapPlays_C_T : hindcastlaw11_HeapPlays_C → Type := fun _ => Bool
noncomputable def hindcastlaw11_HeapPlays_l0_b (g : (i : hindcastlaw11_HeapPlays_C) → Option (hindcastlaw11_HeapPlays_C_T i)) (a1 : (List GHindcastlaw11Op)) (v0_8_0 : Int) (m0_7_0 : Int) (m0_7_1 : Int) (m0_7_2 : (List GApiObj)) (o0_1005 : GHeapHeap) : Option Bool :=
  (if v0_8_0 < (a1.length : Int) then ((getI a1 v0_8_0).bind fun (x11_4 : GHindcastlaw11Op) => ((hindcastlaw11_does o0_1005 (GHindcastref11H.mk m0_7_0 m0_7_1 m0_7_2) x11_4).bind fun (r11_6 : (Bool × GHindcastref11H × GHeapHeap)) => (if r11_6.1 = true then ((xheap_Heap_Cells r11_6.2.2).bind fun (r13_4 : Int) => (if r13_4 = r11_6.2.1.Cells then g (.l0 a1 (w64 (v0_8_0 + 1)) r11_6.2.1.Room r11_6.2.1.Cells r11_6.2.1.L r11_6.2.2) else (some false))) else (some false)))) else g (.j1 m0_7_0 m0_7_1 m0_7_2 o0_1005))
noncomputable def hindcastlaw11_HeapPlays_j1_b (g : (i : hindcastlaw11_HeapPlays_C) → Option (hindcastlaw11_HeapPlays_C_T i)) (m0_7_0 : Int) (m0_7_1 : Int) (m0_7_2 : (List GApiObj)) (o0_1005 : GHeapHeap) : Option Bool :=
  ((xheap_Heap_All o0_1005).bind fun (r16_1 : (List GApiObj)) => ((hindcastref11_Same r16_1 m0_7_2).bind fun (r16_4 : Bool) => (if r16_4 = true then ((hindcastlaw11_awake).bind fun (r16_6 : Bool) => (some r16_6)) else (some false))))
noncomputable def hindcastlaw11_HeapPlays_B (g : (i : hindcastlaw11_HeapPlays_C) → Option (hindcastlaw11_HeapPlays_C_T i)) : (i : hindcastlaw11_HeapPlays_C) → Option (hindcastlaw11_HeapPlays_C_T i)
  | .l0 a1 v0_8_0 m0_7_0 m0_7_1 m0_7_2 o0_1005 => hindcastlaw11_HeapPlays_l0_b g a1 v0_8_0 m0_7_0 m0_7_1 m0_7_2 o0_1005
  | .j1 m0_7_0 m0_7_1 m0_7_2 o0_1005 => hindcastlaw11_HeapPlays_j1_b g m0_7_0 m0_7_1 m0_7_2 o0_1005
theorem hindcastlaw11_HeapPlays_B_fin (i : hindcastlaw11_HeapPlays_C) : Fin1 (fun g => hindcastlaw11_HeapPlays_B g i) := by
  cases i with
  | l0 a1 v0_8_0 m0_7_0 m0_7_1 m0_7_2 o0_1005 => show Fin1 (fun g => hindcastlaw11_HeapPlays_l0_b g a1 v0_8_0 m0_7_0 m0_7_1 m0_7_2 o0_1005); unfold hindcastlaw11_HeapPlays_l0_b; repeat (first | refine fin_bind ?_ (fun _ => ?_) | refine fin_ite ?_ ?_ | refine fin_opt ?_ (fun _ => ?_) | exact fin_ask _ | exact fin_const _)
  | j1 m0_7_0 m0_7_1 m0_7_2 o0_1005 => show Fin1 (fun g => hindcastlaw11_HeapPlays_j1_b g m0_7_0 m0_7_1 m0_7_2 o0_1005); unfold hindcastlaw11_HeapPlays_j1_b; repeat (first | refine fin_bind ?_ (fun _ => ?_) | refine fin_ite ?_ ?_ | refine fin_opt ?_ (fun _ => ?_) | exact fin_ask _ | exact fin_const _)
noncomputable def hindcastlaw11_HeapPlays_l0 (a1 : (List GHindcastlaw11Op)) (v0_8_0 : Int) (m0_7_0 : Int) (m0_7_1 : Int) (m0_7_2 : (List GApiObj)) (o0_1005 : GHeapHeap) : Option Bool := fixD hindcastlaw11_HeapPlays_B (.l0 a1 v0_8_0 m0_7_0 m0_7_1 m0_7_2 o0_1005)
noncomputable def hindcastlaw11_HeapPlays_j1 (m0_7_0 : Int) (m0_7_1 : Int) (m0_7_2 : (List GApiObj)) (o0_1005 : GHeapHeap) : Option Bool := fixD hindcastlaw11_HeapPlays_B (.j1 m0_7_0 m0_7_1 m0_7_2 o0_1005)
theorem hindcastlaw11_HeapPlays_l0_eq (a1 : (List GHindcastlaw11Op)) (v0_8_0 : Int) (m0_7_0 : Int) (m0_7_1 : Int) (m0_7_2 : (List GApiObj)) (o0_1005 : GHeapHeap) : hindcastlaw11_HeapPlays_l0 a1 v0_8_0 m0_7_0 m0_7_1 m0_7_2 o0_1005 =
  (if v0_8_0 < (a1.length : Int) then ((getI a1 v0_8_0).bind fun (x11_4 : GHindcastlaw11Op) => ((hindcastlaw11_does o0_1005 (GHindcastref11H.mk m0_7_0 m0_7_1 m0_7_2) x11_4).bind fun (r11_6 : (Bool × GHindcastref11H × GHeapHeap)) => (if r11_6.1 = true then ((xheap_Heap_Cells r11_6.2.2).bind fun (r13_4 : Int) => (if r13_4 = r11_6.2.1.Cells then hindcastlaw11_HeapPlays_l0 a1 (w64 (v0_8_0 + 1)) r11_6.2.1.Room r11_6.2.1.Cells r11_6.2.1.L r11_6.2.2 else (some false))) else (some false)))) else hindcastlaw11_HeapPlays_j1 m0_7_0 m0_7_1 m0_7_2 o0_1005) := fix_eq hindcastlaw11_HeapPlays_B_fin _
theorem hindcastlaw11_HeapPlays_j1_eq (m0_7_0 : Int) (m0_7_1 : Int) (m0_7_2 : (List GApiObj)) (o0_1005 : GHeapHeap) : hindcastlaw11_HeapPlays_j1 m0_7_0 m0_7_1 m0_7_2 o0_1005 =
  ((xheap_Heap_All o0_1005).bind fun (r16_1 : (List GApiObj)) => ((hindcastref11_Same r16_1 m0_7_2).bind fun (r16_4 : Bool) => (if r16_4 = true then ((hindcastlaw11_awake).bind fun (r16_6 : Bool) => (some r16_6)) else (some false)))) := fix_eq hindcastlaw11_HeapPlays_B_fin _
set_option maxRecDepth 100000 in
theorem hindcastlaw11_HeapPlays_l0_ok (n : Nat)  (a1 : (List GHindcastlaw11Op)) (v0_8_0 : Int) (m0_7_0 : Int) (m0_7_1 : Int) (m0_7_2 : (List GApiObj)) (o0_1005 : GHeapHeap) (r_ : Bool) (Q' : Exit → St → Prop) (kr : ∀ (ns : List (Nat × Nat × Nat)) (s : LS) (x : Bool), retX Try.prog ns [.tmp 4] s = some (aB x) → x = r_ → Q' .ret s.st) (k_x_0 : ∀ (q : Nat), q < n → ∀ (m0_7_0 : Int) (m0_7_1 : Int) (m0_7_2 : (List GApiObj)) (o0_1005 : GHeapHeap) (s' : LS), recN hindcastlaw11_HeapPlays_B q (.j1 m0_7_0 m0_7_1 m0_7_2 o0_1005) = some r_ → Fits s'.st (LS.mk 76 [(5, .ob 1005), (7, .ptr 7 0)] [(7, some (.box 33 [aI .i64 m0_7_0, aI .i64 m0_7_1, .t (.sl 4 (m0_7_2.map c_GApiObj))])), (1005, some (.obj (.any (rep_GHeapHeap o0_1005))))]).st → Q' (.exit 0) s'.st) (h : recN hindcastlaw11_HeapPlays_B n (.l0 a1 v0_8_0 m0_7_0 m0_7_1 m0_7_2 o0_1005) = some r_) : W Try.prog (subC (bodyC Try.prog 4) [1, 1, 1, 1, 1, 1, 0, 1, 0]) (LS.mk 76 [(1, .t (.sl 13 (a1.map c_GHindcastlaw11Op))), (5, .ob 1005), (7, .ptr 7 0), (8, aI .i64 v0_8_0)] [(7, some (.box 33 [aI .i64 m0_7_0, aI .i64 m0_7_1, .t (.sl 4 (m0_7_2.map c_GApiObj))])), (1005, some (.obj (.any (rep_GHeapHeap o0_1005))))]).st Q' := by
  refine W_fix (σ := Int × Int × Int × (List GApiObj) × GHeapHeap) (fun m x_ => m ≤ n ∧ recN hindcastlaw11_HeapPlays_B m (.l0 a1 x_.1 x_.2.1 x_.2.2.1 x_.2.2.2.1 x_.2.2.2.2) = some r_) (fun x_ => LS.mk 76 [(1, .t (.sl 13 (a1.map c_GHindcastlaw11Op))), (5, .ob 1005), (7, .ptr 7 0), (8, aI .i64 x_.1)] [(7, some (.box 33 [aI .i64 x_.2.1, aI .i64 x_.2.2.1, .t (.sl 4 (x_.2.2.2.1.map c_GApiObj))])), (1005, some (.obj (.any (rep_GHeapHeap x_.2.2.2.2))))]) (fun x hx => by cases hx.2) (fun _ _ => rfl) ?_ n (v0_8_0, m0_7_0, m0_7_1, m0_7_2, o0_1005) ⟨Nat.le_refl _, h⟩
  clear h
  rintro m ⟨v0_8_0, m0_7_0, m0_7_1, m0_7_2, o0_1005⟩ ⟨hlt, h⟩
  replace h : hindcastlaw11_HeapPlays_l0_b (recN hindcastlaw11_HeapPlays_B m) a1 v0_8_0 m0_7_0 m0_7_1 m0_7_2 o0_1005 = some r_ := h
  unfold hindcastlaw11_HeapPlays_l0_b at h
  refine W_seq ?_
  refine W_seq ?_
  refine W_y (s' := LS.mk 76 [(1, .t (.sl 13 (a1.map c_GHindcastlaw11Op))), (5, .ob 1005), (7, .ptr 7 0), (8, aI .i64 v0_8_0), (45, aB (decide (v0_8_0 < (a1.length : Int))))] [(7, some (.box 33 [aI .i64 m0_7_0, aI .i64 m0_7_1, .t (.sl 4 (m0_7_2.map c_GApiObj))])), (1005, some (.obj (.any (rep_GHeapHeap o0_1005))))]) mixed [qn0, qn0, qn (.len a1.length), qn0] ⟨[1, 5, 7, 8, 45], [], [7], [], [(1005, 1005)], [], []⟩ (aC (len_obx c_GHindcastlaw11Op a1) aN) (by kernel_rfl) ?_
  refine W_cond (decide (v0_8_0 < (a1.length : Int))) (by kernel_rfl) (fun hb1001 => ?_) (fun hb1001 => ?_)
  · have hx1002 := hb1001
    have h := if_t h hx1002
    refine W_skip ?_
    refine W_seq ?_
    refine W_block ?_
    refine W_seq ?_
    obtain ⟨x11_4, hx11_4, h⟩ := bind_ok h
    obtain ⟨r11_6, hr11_6, h⟩ := bind_ok h
    have hr11_6 := hindcastlaw11_does_ok hr11_6
    refine W_y (s' := LS.mk 76 [(1, .t (.sl 13 (a1.map c_GHindcastlaw11Op))), (5, .ob 1005), (7, .ptr 7 0), (8, aI .i64 v0_8_0), (9, aB r11_6.1), (10, .ptr 10 0)] [(7, some (.box 33 [aI .i64 m0_7_0, aI .i64 m0_7_1, .t (.sl 4 (m0_7_2.map c_GApiObj))])), (10, some (.box 33 [aI .i64 r11_6.2.1.Room, aI .i64 r11_6.2.1.Cells, .t (.sl 4 (r11_6.2.1.L.map c_GApiObj))])), (1005, some (.obj (.any (rep_GHeapHeap r11_6.2.2))))]) mixed [qn0, qn0, qn0, qn0, qn (.ix (Int.toNat v0_8_0) (c_GHindcastlaw11Op x11_4)), qn0, qn (.io ⟨[], [(1005, 900)], [], [], [], [], [(900, 1005)]⟩ (.tup [aB r11_6.1, e_GHindcastref11H r11_6.2.1]) [(900, .obj (.any (rep_GHeapHeap r11_6.2.2)))]), qn0, qn0, qn0, qn0, qn0, qn0] ⟨[1, 5, 7, 8, 9, 10], [], [7, 10], [], [(1005, 1005)], [], []⟩ (aC (ix_obx c_GHindcastlaw11Op hx11_4) (aC hr11_6 aN)) (by kernel_rfl) ?_
    refine W_seq ?_
    refine W_y (s' := LS.mk 76 [(1, .t (.sl 13 (a1.map c_GHindcastlaw11Op))), (5, .ob 1005), (7, .ptr 7 0), (8, aI .i64 v0_8_0), (9, aB r11_6.1)] [(7, some (.box 33 [aI .i64 r11_6.2.1.Room, aI .i64 r11_6.2.1.Cells, .t (.sl 4 (r11_6.2.1.L.map c_GApiObj))])), (1005, some (.obj (.any (rep_GHeapHeap r11_6.2.2))))]) mixed [qn0, qn0] ⟨[1, 5, 7, 8, 9], [], [7], [], [(1005, 1005)], [], []⟩ aN (by kernel_rfl) ?_
    refine W_seq ?_
    refine (Bool.eq_false_or_eq_true (!r11_6.1)).elim (fun hb1003 => ?_) (fun hb1003 => ?_)
    · have hx1004 : r11_6.1 = false := (bnot_t hb1003)
      have h := ib_f h hx1004
      refine W_y (s' := LS.mk 76 [(1, .t (.sl 13 (a1.map c_GHindcastlaw11Op))), (5, .ob 1005), (7, .ptr 7 0), (8, aI .i64 v0_8_0), (67, aB true)] [(7, some (.box 33 [aI .i64 r11_6.2.1.Room, aI .i64 r11_6.2.1.Cells, .t (.sl 4 (r11_6.2.1.L.map c_GApiObj))])), (1005, some (.obj (.any (rep_GHeapHeap r11_6.2.2))))]) mixed [qn0, qn0, qn0, qt0, qt0, qt0, qt0, qt0, qn (.dec true)] ⟨[1, 5, 7, 8, 67], [], [7], [], [(1005, 1005)], [], []⟩ (aC (not_f hx1004) (aC (not_f hx1004) (aC (not_f hx1004) (aC (not_f hx1004) (aC (not_f hx1004) (aC (not_f hx1004) aN)))))) (by kernel_rfl) ?_
      refine W_cond true (by kernel_rfl) (fun _ => ?_) (fun hb => nomatch ((rfl : true = true).symm.trans hb))
      refine W_seq ?_
      refine W_y (s' := LS.mk 76 [(4, aB false)] []) mixed [qn0] ⟨[4], [], [], [], [], [], []⟩ aN (by kernel_rfl) ?_
      refine W_ret ?_
      exact kr [] _ _ (by kernel_rfl) (Option.some.inj h)
    · have hx1004 : r11_6.1 = true := (bnot_f hb1003)
      have h := ib_t h hx1004
      obtain ⟨r13_4, hr13_4, h⟩ := bind_ok h
      have hr13_4 := xheap_Heap_Cells_ok hr13_4
      refine W_y (s' := LS.mk 76 [(1, .t (.sl 13 (a1.map c_GHindcastlaw11Op))), (5, .ob 1005), (7, .ptr 7 0), (8, aI .i64 v0_8_0), (67, aB (!(decide (r13_4 = r11_6.2.1.Cells))))] [(7, some (.box 33 [aI .i64 r11_6.2.1.Room, aI .i64 r11_6.2.1.Cells, .t (.sl 4 (r11_6.2.1.L.map c_GApiObj))])), (1005, some (.obj (.any (rep_GHeapHeap r11_6.2.2))))]) mixed [qn0, qn0, qn0, qf0, qf (.io ⟨[], [(1005, 900)], [], [], [], [], [(900, 1005)]⟩ (aI .i64 r13_4) [(900, .obj (.any (rep_GHeapHeap r11_6.2.2)))]), qf0, qf0, qf0, qn (.dec false)] ⟨[1, 5, 7, 8, 67], [], [7], [], [(1005, 1005)], [], []⟩ (aC (not_t hx1004) (aC (not_t hx1004) (aC hr13_4 (aC (not_t hx1004) (aC (not_t hx1004) (aC (not_t hx1004) (aC (not_t hx1004) aN))))))) (by kernel_rfl) ?_
      refine W_cond (!(decide (r13_4 = r11_6.2.1.Cells))) (by kernel_rfl) (fun hb1005 => ?_) (fun hb1005 => ?_)
      · have hx1006 : (decide (r13_4 = r11_6.2.1.Cells)) = false := (bnot_t hb1005)
        have h := if_f h hx1006
        refine W_seq ?_
        refine W_y (s' := LS.mk 76 [(4, aB false)] []) mixed [qn0] ⟨[4], [], [], [], [], [], []⟩ aN (by kernel_rfl) ?_
        refine W_ret ?_
        exact kr [] _ _ (by kernel_rfl) (Option.some.inj h)
      · have hx1006 : (decide (r13_4 = r11_6.2.1.Cells)) = true := (bnot_f hb1005)
        have h := if_t h hx1006
        refine W_skip ?_
        refine W_y (s' := LS.mk 76 [(1, .t (.sl 13 (a1.map c_GHindcastlaw11Op))), (5, .ob 1005), (7, .ptr 7 0), (8, aI .i64 (w64 (v0_8_0 + 1)))] [(7, some (.box 33 [aI .i64 r11_6.2.1.Room, aI .i64 r11_6.2.1.Cells, .t (.sl 4 (r11_6.2.1.L.map c_GApiObj))])), (1005, some (.obj (.any (rep_GHeapHeap r11_6.2.2))))]) mixed [qn0, qn0, qn0] ⟨[1, 5, 7, 8], [], [7], [], [(1005, 1005)], [], []⟩ aN (by kernel_rfl) ?_
        exact ⟨m, ((w64 (v0_8_0 + 1)), r11_6.2.1.Room, r11_6.2.1.Cells, r11_6.2.1.L, r11_6.2.2), Nat.le_refl _, ⟨Nat.le_of_lt hlt, h⟩, convX_fits (v := ⟨[1, 5, 7, 8], [], [7], [], [(1005, 1005)], [], []⟩) (s' := LS.mk 76 [(1, .t (.sl 13 (a1.map c_GHindcastlaw11Op))), (5, .ob 1005), (7, .ptr 7 0), (8, aI .i64 (w64 (v0_8_0 + 1)))] [(7, some (.box 33 [aI .i64 r11_6.2.1.Room, aI .i64 r11_6.2.1.Cells, .t (.sl 4 (r11_6.2.1.L.map c_GApiObj))])), (1005, some (.obj (.any (rep_GHeapHeap r11_6.2.2))))]) (by kernel_rfl)⟩
  · have hx1002 := hb1001
    have h := if_f h hx1002
    refine W_exit ?_
    exact k_x_0 m hlt m0_7_0 m0_7_1 m0_7_2 o0_1005 _ h (convX_fits (v := ⟨[5, 7], [], [7], [], [(1005, 1005)], [], []⟩) (s' := LS.mk 76 [(5, .ob 1005), (7, .ptr 7 0)] [(7, some (.box 33 [aI .i64 m0_7_0, aI .i64 m0_7_1, .t (.sl 4 (m0_7_2.map c_GApiObj))])), (1005, some (.obj (.any (rep_GHeapHeap o0_1005))))]) (by kernel_rfl))
set_option maxRecDepth 100000 in
theorem hindcastlaw11_HeapPlays_j1_ok (n : Nat)  (m0_7_0 : Int) (m0_7_1 : Int) (m0_7_2 : (List GApiObj)) (o0_1005 : GHeapHeap) (r_ : Bool) (Q' : Exit → St → Prop) (kr : ∀ (ns : List (Nat × Nat × Nat)) (s : LS) (x : Bool), retX Try.prog ns [.tmp 4] s = some (aB x) → x = r_ → Q' .ret s.st)  (h : recN hindcastlaw11_HeapPlays_B n (.j1 m0_7_0 m0_7_1 m0_7_2 o0_1005) = some r_) : W Try.prog (subC (bodyC Try.prog 4) [1, 1, 1, 1, 1, 1, 1]) (LS.mk 76 [(5, .ob 1005), (7, .ptr 7 0)] [(7, some (.box 33 [aI .i64 m0_7_0, aI .i64 m0_7_1, .t (.sl 4 (m0_7_2.map c_GApiObj))])), (1005, some (.obj (.any (rep_GHeapHeap o0_1005))))]).st Q' := by
  cases n with
  | zero => cases h
  | succ m =>
  have hlt : m < m + 1 := Nat.lt_succ_self m
  replace h : hindcastlaw11_HeapPlays_j1_b (recN hindcastlaw11_HeapPlays_B m) m0_7_0 m0_7_1 m0_7_2 o0_1005 = some r_ := h
  unfold hindcastlaw11_HeapPlays_j1_b at h
  refine W_seq ?_
  obtain ⟨r16_1, hr16_1, h⟩ := bind_ok h
  have hr16_1 := xheap_Heap_All_ok hr16_1
  obtain ⟨r16_4, hr16_4, h⟩ := bind_ok h
  have hr16_4 := hindcastref11_Same_ok hr16_4
  refine (Bool.eq_false_or_eq_true r16_4).elim (fun hb2001 => ?_) (fun hb2001 => ?_)
  · have hx2002 := hb2001
    have h := ib_t h hx2002
    obtain ⟨r16_6, hr16_6, h⟩ := bind_ok h
    have hr16_6 := hindcastlaw11_awake_ok hr16_6
    refine W_y (s' := LS.mk 76 [(4, aB r16_6)] []) mixed [qn0, qn (.io ⟨[], [(1005, 900)], [], [], [], [], [(900, 1005), (800000, 69)]⟩ (.ref 800000) [(900, .obj (.any (rep_GHeapHeap o0_1005))), (800000, .row 27 4 (r16_1.map c_GApiObj))]), qn0, qn0, qn (.call [] (aB r16_4)), qn0, qt (.call [] (aB r16_6)), qn (.dec true), qn0] ⟨[4], [], [], [], [], [], []⟩ (aC hr16_1 (aC hr16_4 (aC hx2002 (aC hr16_6 (aC hx2002 aN))))) (by kernel_rfl) ?_
    refine W_ret ?_
    exact kr [] _ _ (by kernel_rfl) (Option.some.inj h)
  · have hx2002 := hb2001
    have h := ib_f h hx2002
    refine W_y (s' := LS.mk 76 [(4, aB false)] []) mixed [qn0, qn (.io ⟨[], [(1005, 900)], [], [], [], [], [(900, 1005), (800000, 69)]⟩ (.ref 800000) [(900, .obj (.any (rep_GHeapHeap o0_1005))), (800000, .row 27 4 (r16_1.map c_GApiObj))]), qn0, qn0, qn (.call [] (aB r16_4)), qn0, qf0, qn (.dec false), qn0] ⟨[4], [], [], [], [], [], []⟩ (aC hr16_1 (aC hr16_4 (aC hx2002 (aC hx2002 aN)))) (by kernel_rfl) ?_
    refine W_ret ?_
    exact kr [] _ _ (by kernel_rfl) (Option.some.inj h)
noncomputable def hindcastlaw11_HeapPlays (a0 : Int) (a1 : (List GHindcastlaw11Op)) : Option Bool :=
  ((xheap_New a0).bind fun (r1_1 : ((Option GHeapHeap) × Int)) => optCase r1_1.1 (if a0 < 0 then (if r1_1.2 = 1 then ((hindcastlaw11_awake).bind fun (r3_7 : Bool) => (some r3_7)) else (some false)) else (if a0 > 65536 then (if r1_1.2 = 1 then ((hindcastlaw11_awake).bind fun (r3_7 : Bool) => (some r3_7)) else (some false)) else (some false))) fun (y1_1 : GHeapHeap) => (if a0 < 0 then (some false) else (if a0 > 65536 then (some false) else (if r1_1.2 = 0 then ((hindcastlaw11_great a1).bind fun (r6_1 : Bool) => (if r6_1 = true then ((hindcastlaw11_awake).bind fun (r7_0 : Bool) => (some r7_0)) else hindcastlaw11_HeapPlays_l0 a1 0 a0 0 ([] : List GApiObj) y1_1)) else (some false)))))
set_option maxRecDepth 100000 in
theorem hindcastlaw11_HeapPlays_ok {a0 : Int} {a1 : (List GHindcastlaw11Op)} {r_ : Bool} (h : hindcastlaw11_HeapPlays a0 a1 = some r_) : R_hindcastlaw11_HeapPlays a0 a1 r_ := by
  unfold hindcastlaw11_HeapPlays at h
  refine fn_pureX (fn := Try.f4) (by kernel_rfl) (c := subC (bodyC Try.prog 4) []) (by kernel_rfl) (by kernel_rfl) (Nat.le_of_ble_eq_true (by kernel_rfl)) ?_
  generalize hQ' : retQ Try.prog Try.f4 (aB r_) = Q'
  have kr : ∀ (ns : List (Nat × Nat × Nat)) (s : LS) (x : Bool), retX Try.prog ns [.tmp 4] s = some (aB x) → x = r_ → Q' .ret s.st := by subst hQ'; intro ns s x hx hq; subst hq; exact ret_ok (fn := Try.f4) ns hx
  change W Try.prog _ (LS.mk 76 [(0, aI .i64 a0), (1, .t (.sl 13 (a1.map c_GHindcastlaw11Op)))] []).st Q'
  refine W_seq ?_
  refine W_y (s' := LS.mk 76 [(0, aI .i64 a0), (1, .t (.sl 13 (a1.map c_GHindcastlaw11Op)))] []) mixed [qn0] ⟨[0, 1], [], [], [], [], [], []⟩ aN (by kernel_rfl) ?_
  refine W_seq ?_
  obtain ⟨r1_1, hr1_1, h⟩ := bind_ok h
  have hr1_1 := xheap_New_ok hr1_1
  unfold RI_heap_New at hr1_1
  cases hc_y1_1 : r1_1.1 with
  | none =>
    rw [hc_y1_1] at hr1_1
    have h := oc_nx hc_y1_1 h
    refine W_y (s' := LS.mk 76 [(0, aI .i64 a0), (1, .t (.sl 13 (a1.map c_GHindcastlaw11Op))), (5, aPnil), (6, aI .i64 r1_1.2)] []) mixed [qn0, qn (.io ⟨[], [], [], [], [], [], []⟩ (.tup [aPnil, aI .i64 r1_1.2]) []), qn0, qn0, qn0, qn0, qn0] ⟨[0, 1, 5, 6], [], [], [], [], [], []⟩ (aC hr1_1 aN) (by kernel_rfl) ?_
    refine W_seq ?_
    refine W_seq ?_
    refine (Bool.eq_false_or_eq_true (decide (a0 < 0))).elim (fun hb1 => ?_) (fun hb1 => ?_)
    · have hx2 := hb1
      have h := if_t h hx2
      refine W_y (s' := LS.mk 76 [(0, aI .i64 a0), (1, .t (.sl 13 (a1.map c_GHindcastlaw11Op))), (5, aPnil), (6, aI .i64 r1_1.2), (21, aB true)] []) mixed [qn0, qn0, qn0, qt0, qt0, qn (.dec true)] ⟨[0, 1, 5, 6, 21], [], [], [], [], [], []⟩ (aC hx2 (aC hx2 (aC hx2 aN))) (by kernel_rfl) ?_
      refine W_cond true (by kernel_rfl) (fun _ => ?_) (fun hb => nomatch ((rfl : true = true).symm.trans hb))
      refine W_seq ?_
      refine (Bool.eq_false_or_eq_true (decide (r1_1.2 = 1))).elim (fun hb3 => ?_) (fun hb3 => ?_)
      · have hx4 := hb3
        have h := if_t h hx4
        obtain ⟨r3_7, hr3_7, h⟩ := bind_ok h
        have hr3_7 := hindcastlaw11_awake_ok hr3_7
        refine W_y (s' := LS.mk 76 [(4, aB r3_7)] []) mixed [qn0, qn0, qn0, qn0, qn0, qn0, qn0, qt (.call [] (aB r3_7)), qn (.dec true), qn0] ⟨[4], [], [], [], [], [], []⟩ (aC hx4 (aC hr3_7 (aC hx4 aN))) (by kernel_rfl) ?_
        refine W_ret ?_
        exact kr [] _ _ (by kernel_rfl) (Option.some.inj h)
      · have hx4 := hb3
        have h := if_f h hx4
        refine W_y (s' := LS.mk 76 [(4, aB false)] []) mixed [qn0, qn0, qn0, qn0, qn0, qn0, qn0, qf0, qn (.dec false), qn0] ⟨[4], [], [], [], [], [], []⟩ (aC hx4 (aC hx4 aN)) (by kernel_rfl) ?_
        refine W_ret ?_
        exact kr [] _ _ (by kernel_rfl) (Option.some.inj h)
    · have hx2 := hb1
      have h := if_f h hx2
      refine W_y (s' := LS.mk 76 [(0, aI .i64 a0), (1, .t (.sl 13 (a1.map c_GHindcastlaw11Op))), (5, aPnil), (6, aI .i64 r1_1.2), (21, aB (decide (a0 > 65536)))] []) mixed [qn0, qn0, qn0, qf0, qf0, qn (.dec false)] ⟨[0, 1, 5, 6, 21], [], [], [], [], [], []⟩ (aC hx2 (aC hx2 (aC hx2 aN))) (by kernel_rfl) ?_
      refine W_cond (decide (a0 > 65536)) (by kernel_rfl) (fun hb5 => ?_) (fun hb5 => ?_)
      · have hx6 := hb5
        have h := if_t h hx6
        refine W_seq ?_
        refine (Bool.eq_false_or_eq_true (decide (r1_1.2 = 1))).elim (fun hb7 => ?_) (fun hb7 => ?_)
        · have hx8 := hb7
          have h := if_t h hx8
          obtain ⟨r3_7, hr3_7, h⟩ := bind_ok h
          have hr3_7 := hindcastlaw11_awake_ok hr3_7
          refine W_y (s' := LS.mk 76 [(4, aB r3_7)] []) mixed [qn0, qn0, qn0, qn0, qn0, qn0, qn0, qt (.call [] (aB r3_7)), qn (.dec true), qn0] ⟨[4], [], [], [], [], [], []⟩ (aC hx8 (aC hr3_7 (aC hx8 aN))) (by kernel_rfl) ?_
          refine W_ret ?_
          exact kr [] _ _ (by kernel_rfl) (Option.some.inj h)
        · have hx8 := hb7
          have h := if_f h hx8
          refine W_y (s' := LS.mk 76 [(4, aB false)] []) mixed [qn0, qn0, qn0, qn0, qn0, qn0, qn0, qf0, qn (.dec false), qn0] ⟨[4], [], [], [], [], [], []⟩ (aC hx8 (aC hx8 aN)) (by kernel_rfl) ?_
          refine W_ret ?_
          exact kr [] _ _ (by kernel_rfl) (Option.some.inj h)
      · have hx6 := hb5
        have h := if_f h hx6
        refine W_skip ?_
        refine W_seq ?_
        refine W_seq ?_
        refine W_y (s' := LS.mk 76 [(0, aI .i64 a0), (1, .t (.sl 13 (a1.map c_GHindcastlaw11Op))), (5, aPnil), (36, aB true)] []) mixed [qn0, qn0, qn0, qn0, qn0, qn0] ⟨[0, 1, 5, 36], [], [], [], [], [], []⟩ aN (by kernel_rfl) ?_
        refine W_cond true (by kernel_rfl) (fun _ => ?_) (fun hb => nomatch ((rfl : true = true).symm.trans hb))
        refine W_seq ?_
        refine W_y (s' := LS.mk 76 [(4, aB false)] []) mixed [qn0] ⟨[4], [], [], [], [], [], []⟩ aN (by kernel_rfl) ?_
        refine W_ret ?_
        exact kr [] _ _ (by kernel_rfl) (Option.some.inj h)
  | some y1_1 =>
    rw [hc_y1_1] at hr1_1
    have h := oc_sx hc_y1_1 h
    refine W_y (s' := LS.mk 76 [(0, aI .i64 a0), (1, .t (.sl 13 (a1.map c_GHindcastlaw11Op))), (5, .ob 1005), (6, aI .i64 r1_1.2)] [(1005, some (.obj (.any (rep_GHeapHeap y1_1))))]) mixed [qn0, qn (.io ⟨[], [], [], [], [], [], [(700000, 13)]⟩ (.tup [.ob 700000, aI .i64 r1_1.2]) [(700000, .obj (.any (rep_GHeapHeap y1_1)))]), qn0, qn0, qn0, qn0, qn0] ⟨[0, 1, 5, 6], [], [], [], [(13, 1005)], [], []⟩ (aC hr1_1 aN) (by kernel_rfl) ?_
    refine W_seq ?_
    refine W_seq ?_
    refine (Bool.eq_false_or_eq_true (decide (a0 < 0))).elim (fun hb9 => ?_) (fun hb9 => ?_)
    · have hx10 := hb9
      have h := if_t h hx10
      refine W_y (s' := LS.mk 76 [(0, aI .i64 a0), (1, .t (.sl 13 (a1.map c_GHindcastlaw11Op))), (5, .ob 1005), (6, aI .i64 r1_1.2), (21, aB true)] [(1005, some (.obj (.any (rep_GHeapHeap y1_1))))]) mixed [qn0, qn0, qn0, qt0, qt0, qn (.dec true)] ⟨[0, 1, 5, 6, 21], [], [], [], [(1005, 1005)], [], []⟩ (aC hx10 (aC hx10 (aC hx10 aN))) (by kernel_rfl) ?_
      refine W_cond true (by kernel_rfl) (fun _ => ?_) (fun hb => nomatch ((rfl : true = true).symm.trans hb))
      refine W_seq ?_
      refine W_y (s' := LS.mk 76 [(4, aB false)] []) mixed [qn0, qn0, qn0, qn0, qn0, qn0, qn0, qn0, qn0, qn0] ⟨[4], [], [], [], [], [], []⟩ aN (by kernel_rfl) ?_
      refine W_ret ?_
      exact kr [] _ _ (by kernel_rfl) (Option.some.inj h)
    · have hx10 := hb9
      have h := if_f h hx10
      refine W_y (s' := LS.mk 76 [(0, aI .i64 a0), (1, .t (.sl 13 (a1.map c_GHindcastlaw11Op))), (5, .ob 1005), (6, aI .i64 r1_1.2), (21, aB (decide (a0 > 65536)))] [(1005, some (.obj (.any (rep_GHeapHeap y1_1))))]) mixed [qn0, qn0, qn0, qf0, qf0, qn (.dec false)] ⟨[0, 1, 5, 6, 21], [], [], [], [(1005, 1005)], [], []⟩ (aC hx10 (aC hx10 (aC hx10 aN))) (by kernel_rfl) ?_
      refine W_cond (decide (a0 > 65536)) (by kernel_rfl) (fun hb11 => ?_) (fun hb11 => ?_)
      · have hx12 := hb11
        have h := if_t h hx12
        refine W_seq ?_
        refine W_y (s' := LS.mk 76 [(4, aB false)] []) mixed [qn0, qn0, qn0, qn0, qn0, qn0, qn0, qn0, qn0, qn0] ⟨[4], [], [], [], [], [], []⟩ aN (by kernel_rfl) ?_
        refine W_ret ?_
        exact kr [] _ _ (by kernel_rfl) (Option.some.inj h)
      · have hx12 := hb11
        have h := if_f h hx12
        refine W_skip ?_
        refine W_seq ?_
        refine W_seq ?_
        refine W_y (s' := LS.mk 76 [(0, aI .i64 a0), (1, .t (.sl 13 (a1.map c_GHindcastlaw11Op))), (5, .ob 1005), (36, aB (!(decide (r1_1.2 = 0))))] [(1005, some (.obj (.any (rep_GHeapHeap y1_1))))]) mixed [qn0, qn0, qn0, qn0, qn0, qn0] ⟨[0, 1, 5, 36], [], [], [], [(1005, 1005)], [], []⟩ aN (by kernel_rfl) ?_
        refine W_cond (!(decide (r1_1.2 = 0))) (by kernel_rfl) (fun hb13 => ?_) (fun hb13 => ?_)
        · have hx14 : (decide (r1_1.2 = 0)) = false := (bnot_t hb13)
          have h := if_f h hx14
          refine W_seq ?_
          refine W_y (s' := LS.mk 76 [(4, aB false)] []) mixed [qn0] ⟨[4], [], [], [], [], [], []⟩ aN (by kernel_rfl) ?_
          refine W_ret ?_
          exact kr [] _ _ (by kernel_rfl) (Option.some.inj h)
        · have hx14 : (decide (r1_1.2 = 0)) = true := (bnot_f hb13)
          have h := if_t h hx14
          refine W_skip ?_
          refine W_seq ?_
          refine W_seq ?_
          obtain ⟨r6_1, hr6_1, h⟩ := bind_ok h
          have hr6_1 := hindcastlaw11_great_ok hr6_1
          refine W_y (s' := LS.mk 76 [(0, aI .i64 a0), (1, .t (.sl 13 (a1.map c_GHindcastlaw11Op))), (5, .ob 1005), (38, aB r6_1)] [(1005, some (.obj (.any (rep_GHeapHeap y1_1))))]) mixed [qn0, qn (.call [] (aB r6_1))] ⟨[0, 1, 5, 38], [], [], [], [(1005, 1005)], [], []⟩ (aC hr6_1 aN) (by kernel_rfl) ?_
          refine W_cond r6_1 (by kernel_rfl) (fun hb15 => ?_) (fun hb15 => ?_)
          · have hx16 := hb15
            have h := ib_t h hx16
            refine W_seq ?_
            obtain ⟨r7_0, hr7_0, h⟩ := bind_ok h
            have hr7_0 := hindcastlaw11_awake_ok hr7_0
            refine W_y (s' := LS.mk 76 [(4, aB r7_0)] []) mixed [qn (.call [] (aB r7_0)), qn0] ⟨[4], [], [], [], [], [], []⟩ (aC hr7_0 aN) (by kernel_rfl) ?_
            refine W_ret ?_
            exact kr [] _ _ (by kernel_rfl) (Option.some.inj h)
          · have hx16 := hb15
            have h := ib_f h hx16
            refine W_skip ?_
            refine W_seq ?_
            refine W_y (s' := LS.mk 76 [(1, .t (.sl 13 (a1.map c_GHindcastlaw11Op))), (5, .ob 1005), (7, .ptr 7 0)] [(7, some (.box 33 [aI .i64 a0, aI .i64 0, aNil])), (1005, some (.obj (.any (rep_GHeapHeap y1_1))))]) mixed [qn0, qn0, qn0, qn0] ⟨[1, 5, 7], [], [7], [], [(1005, 1005)], [], []⟩ aN (by kernel_rfl) ?_
            refine W_seq ?_
            refine W_seq ?_
            refine W_y (s' := LS.mk 76 [(1, .t (.sl 13 (a1.map c_GHindcastlaw11Op))), (5, .ob 1005), (7, .ptr 7 0), (8, aI .i64 0)] [(7, some (.box 33 [aI .i64 a0, aI .i64 0, aNil])), (1005, some (.obj (.any (rep_GHeapHeap y1_1))))]) mixed [qn0] ⟨[1, 5, 7, 8], [], [7], [], [(1005, 1005)], [], []⟩ aN (by kernel_rfl) ?_
            refine W_block ?_
            obtain ⟨n, h⟩ := fix_rec h
            exact W_conv (s' := LS.mk 76 [(1, .t (.sl 13 (a1.map c_GHindcastlaw11Op))), (5, .ob 1005), (7, .ptr 7 0), (8, aI .i64 0)] [(7, some (.box 33 [aI .i64 a0, aI .i64 0, .t (.sl 4 (([] : List GApiObj).map c_GApiObj))])), (1005, some (.obj (.any (rep_GHeapHeap y1_1))))]) ⟨[1, 5, 7, 8], [], [7], [(7, 2, .sl 4)], [(1005, 1005)], [], []⟩ (by kernel_rfl) (hindcastlaw11_HeapPlays_l0_ok n a1 0 a0 0 ([] : List GApiObj) y1_1 r_ _ kr (fun q1 hq1 m0_7_0 m0_7_1 m0_7_2 o0_1005 s' h hf => W_pre hf (hindcastlaw11_HeapPlays_j1_ok q1 m0_7_0 m0_7_1 m0_7_2 o0_1005 r_ _ kr h)) h)
def R_hindcastlaw11_HeapRoom (a0 : Int) (a1 : (List GHindcastlaw11Op)) (r : Bool) : Prop := FnP Try.prog 6 [aI .i64 a0, .t (.sl 13 (a1.map c_GHindcastlaw11Op))] (aB r)
inductive hindcastlaw11_HeapRoom_C where
  | l0 (a0 : Int) (a1 : (List GHindcastlaw11Op)) (v0_8_0 : Int) (m0_7_0 : Int) (m0_7_1 : Int) (m0_7_2 : (List GApiObj)) (o0_1005 : GHeapHeap)
  | j1 (o0_1005 : GHeapHeap)
  | l2 (v2_11_0 : Int) (v2_13_0 : Int) (o0_1005 : GHeapHeap) (r18_1 : (List GApiObj))
  | j3 (v2_11_0 : Int) (o0_1005 : GHeapHeap)
abbrev hindcastlaw11_HeapRoom_C_T : hindcastlaw11_HeapRoom_C → Type := fun _ => Bool
noncomputable def hindcastlaw11_HeapRoom_l0_b (g : (i : hindcastlaw11_HeapRoom_C) → Option (hindcastlaw11_HeapRoom_C_T i)) (a0 : Int) (a1 : (List GHindcastlaw11Op)) (v0_8_0 : Int) (m0_7_0 : Int) (m0_7_1 : Int) (m0_7_2 : (List GApiObj)) (o0_1005 : GHeapHeap) : Option Bool :=
  (if v0_8_0 < (a1.length : Int) then ((xheap_Heap_All o0_1005).bind fun (r11_1 : (List GApiObj)) => ((xheap_Heap_Cells o0_1005).bind fun (r12_1 : Int) => ((getI a1 v0_8_0).bind fun (x13_4 : GHindcastlaw11Op) => ((hindcastlaw11_does o0_1005 (GHindcastref11H.mk m0_7_0 m0_7_1 m0_7_2) x13_4).bind fun (r13_6 : (Bool × GHindcastref11H × GHeapHeap)) => ((xheap_Heap_Cells r13_6.2.2).bind fun (r14_1 : Int) => (if r14_1 > a0 then (some false) else ((xheap_Heap_All r13_6.2.2).bind fun (r14_6 : (List GApiObj)) => (if (r14_6.length : Int) = (r11_1.length : Int) then ((xheap_Heap_Cells r13_6.2.2).bind fun (r14_12 : Int) => (if r14_12 = r12_1 then g (.l0 a0 a1 (w64 (v0_8_0 + 1)) r13_6.2.1.Room r13_6.2.1.Cells r13_6.2.1.L r13_6.2.2) else (some false))) else g (.l0 a0 a1 (w64 (v0_8_0 + 1)) r13_6.2.1.Room r13_6.2.1.Cells r13_6.2.1.L r13_6.2.2))))))))) else g (.j1 o0_1005))
noncomputable def hindcastlaw11_HeapRoom_j1_b (g : (i : hindcastlaw11_HeapRoom_C) → Option (hindcastlaw11_HeapRoom_C_T i)) (o0_1005 : GHeapHeap) : Option Bool :=
  ((xheap_Heap_All o0_1005).bind fun (r18_1 : (List GApiObj)) => g (.l2 0 0 o0_1005 r18_1))
noncomputable def hindcastlaw11_HeapRoom_l2_b (g : (i : hindcastlaw11_HeapRoom_C) → Option (hindcastlaw11_HeapRoom_C_T i)) (v2_11_0 : Int) (v2_13_0 : Int) (o0_1005 : GHeapHeap) (r18_1 : (List GApiObj)) : Option Bool :=
  (if v2_13_0 < (r18_1.length : Int) then ((getI r18_1 v2_13_0).bind fun (x21_3 : GApiObj) => ((hindcastref11_Cost x21_3).bind fun (r21_5 : Int) => g (.l2 (w64 (v2_11_0 + r21_5)) (w64 (v2_13_0 + 1)) o0_1005 r18_1))) else g (.j3 v2_11_0 o0_1005))
noncomputable def hindcastlaw11_HeapRoom_j3_b (g : (i : hindcastlaw11_HeapRoom_C) → Option (hindcastlaw11_HeapRoom_C_T i)) (v2_11_0 : Int) (o0_1005 : GHeapHeap) : Option Bool :=
  ((xheap_Heap_Cells o0_1005).bind fun (r23_2 : Int) => (if v2_11_0 = r23_2 then ((hindcastlaw11_awake).bind fun (r23_5 : Bool) => (some r23_5)) else (some false)))
noncomputable def hindcastlaw11_HeapRoom_B (g : (i : hindcastlaw11_HeapRoom_C) → Option (hindcastlaw11_HeapRoom_C_T i)) : (i : hindcastlaw11_HeapRoom_C) → Option (hindcastlaw11_HeapRoom_C_T i)
  | .l0 a0 a1 v0_8_0 m0_7_0 m0_7_1 m0_7_2 o0_1005 => hindcastlaw11_HeapRoom_l0_b g a0 a1 v0_8_0 m0_7_0 m0_7_1 m0_7_2 o0_1005
  | .j1 o0_1005 => hindcastlaw11_HeapRoom_j1_b g o0_1005
  | .l2 v2_11_0 v2_13_0 o0_1005 r18_1 => hindcastlaw11_HeapRoom_l2_b g v2_11_0 v2_13_0 o0_1005 r18_1
  | .j3 v2_11_0 o0_1005 => hindcastlaw11_HeapRoom_j3_b g v2_11_0 o0_1005
theorem hindcastlaw11_HeapRoom_B_fin (i : hindcastlaw11_HeapRoom_C) : Fin1 (fun g => hindcastlaw11_HeapRoom_B g i) := by
  cases i with
  | l0 a0 a1 v0_8_0 m0_7_0 m0_7_1 m0_7_2 o0_1005 => show Fin1 (fun g => hindcastlaw11_HeapRoom_l0_b g a0 a1 v0_8_0 m0_7_0 m0_7_1 m0_7_2 o0_1005); unfold hindcastlaw11_HeapRoom_l0_b; repeat (first | refine fin_bind ?_ (fun _ => ?_) | refine fin_ite ?_ ?_ | refine fin_opt ?_ (fun _ => ?_) | exact fin_ask _ | exact fin_const _)
  | j1 o0_1005 => show Fin1 (fun g => hindcastlaw11_HeapRoom_j1_b g o0_1005); unfold hindcastlaw11_HeapRoom_j1_b; repeat (first | refine fin_bind ?_ (fun _ => ?_) | refine fin_ite ?_ ?_ | refine fin_opt ?_ (fun _ => ?_) | exact fin_ask _ | exact fin_const _)
  | l2 v2_11_0 v2_13_0 o0_1005 r18_1 => show Fin1 (fun g => hindcastlaw11_HeapRoom_l2_b g v2_11_0 v2_13_0 o0_1005 r18_1); unfold hindcastlaw11_HeapRoom_l2_b; repeat (first | refine fin_bind ?_ (fun _ => ?_) | refine fin_ite ?_ ?_ | refine fin_opt ?_ (fun _ => ?_) | exact fin_ask _ | exact fin_const _)
  | j3 v2_11_0 o0_1005 => show Fin1 (fun g => hindcastlaw11_HeapRoom_j3_b g v2_11_0 o0_1005); unfold hindcastlaw11_HeapRoom_j3_b; repeat (first | refine fin_bind ?_ (fun _ => ?_) | refine fin_ite ?_ ?_ | refine fin_opt ?_ (fun _ => ?_) | exact fin_ask _ | exact fin_const _)
noncomputable def hindcastlaw11_HeapRoom_l0 (a0 : Int) (a1 : (List GHindcastlaw11Op)) (v0_8_0 : Int) (m0_7_0 : Int) (m0_7_1 : Int) (m0_7_2 : (List GApiObj)) (o0_1005 : GHeapHeap) : Option Bool := fixD hindcastlaw11_HeapRoom_B (.l0 a0 a1 v0_8_0 m0_7_0 m0_7_1 m0_7_2 o0_1005)
noncomputable def hindcastlaw11_HeapRoom_j1 (o0_1005 : GHeapHeap) : Option Bool := fixD hindcastlaw11_HeapRoom_B (.j1 o0_1005)
noncomputable def hindcastlaw11_HeapRoom_l2 (v2_11_0 : Int) (v2_13_0 : Int) (o0_1005 : GHeapHeap) (r18_1 : (List GApiObj)) : Option Bool := fixD hindcastlaw11_HeapRoom_B (.l2 v2_11_0 v2_13_0 o0_1005 r18_1)
noncomputable def hindcastlaw11_HeapRoom_j3 (v2_11_0 : Int) (o0_1005 : GHeapHeap) : Option Bool := fixD hindcastlaw11_HeapRoom_B (.j3 v2_11_0 o0_1005)
theorem hindcastlaw11_HeapRoom_l0_eq (a0 : Int) (a1 : (List GHindcastlaw11Op)) (v0_8_0 : Int) (m0_7_0 : Int) (m0_7_1 : Int) (m0_7_2 : (List GApiObj)) (o0_1005 : GHeapHeap) : hindcastlaw11_HeapRoom_l0 a0 a1 v0_8_0 m0_7_0 m0_7_1 m0_7_2 o0_1005 =
  (if v0_8_0 < (a1.length : Int) then ((xheap_Heap_All o0_1005).bind fun (r11_1 : (List GApiObj)) => ((xheap_Heap_Cells o0_1005).bind fun (r12_1 : Int) => ((getI a1 v0_8_0).bind fun (x13_4 : GHindcastlaw11Op) => ((hindcastlaw11_does o0_1005 (GHindcastref11H.mk m0_7_0 m0_7_1 m0_7_2) x13_4).bind fun (r13_6 : (Bool × GHindcastref11H × GHeapHeap)) => ((xheap_Heap_Cells r13_6.2.2).bind fun (r14_1 : Int) => (if r14_1 > a0 then (some false) else ((xheap_Heap_All r13_6.2.2).bind fun (r14_6 : (List GApiObj)) => (if (r14_6.length : Int) = (r11_1.length : Int) then ((xheap_Heap_Cells r13_6.2.2).bind fun (r14_12 : Int) => (if r14_12 = r12_1 then hindcastlaw11_HeapRoom_l0 a0 a1 (w64 (v0_8_0 + 1)) r13_6.2.1.Room r13_6.2.1.Cells r13_6.2.1.L r13_6.2.2 else (some false))) else hindcastlaw11_HeapRoom_l0 a0 a1 (w64 (v0_8_0 + 1)) r13_6.2.1.Room r13_6.2.1.Cells r13_6.2.1.L r13_6.2.2)))))))) else hindcastlaw11_HeapRoom_j1 o0_1005) := fix_eq hindcastlaw11_HeapRoom_B_fin _
theorem hindcastlaw11_HeapRoom_j1_eq (o0_1005 : GHeapHeap) : hindcastlaw11_HeapRoom_j1 o0_1005 =
  ((xheap_Heap_All o0_1005).bind fun (r18_1 : (List GApiObj)) => hindcastlaw11_HeapRoom_l2 0 0 o0_1005 r18_1) := fix_eq hindcastlaw11_HeapRoom_B_fin _
theorem hindcastlaw11_HeapRoom_l2_eq (v2_11_0 : Int) (v2_13_0 : Int) (o0_1005 : GHeapHeap) (r18_1 : (List GApiObj)) : hindcastlaw11_HeapRoom_l2 v2_11_0 v2_13_0 o0_1005 r18_1 =
  (if v2_13_0 < (r18_1.length : Int) then ((getI r18_1 v2_13_0).bind fun (x21_3 : GApiObj) => ((hindcastref11_Cost x21_3).bind fun (r21_5 : Int) => hindcastlaw11_HeapRoom_l2 (w64 (v2_11_0 + r21_5)) (w64 (v2_13_0 + 1)) o0_1005 r18_1)) else hindcastlaw11_HeapRoom_j3 v2_11_0 o0_1005) := fix_eq hindcastlaw11_HeapRoom_B_fin _
theorem hindcastlaw11_HeapRoom_j3_eq (v2_11_0 : Int) (o0_1005 : GHeapHeap) : hindcastlaw11_HeapRoom_j3 v2_11_0 o0_1005 =
  ((xheap_Heap_Cells o0_1005).bind fun (r23_2 : Int) => (if v2_11_0 = r23_2 then ((hindcastlaw11_awake).bind fun (r23_5 : Bool) => (some r23_5)) else (some false))) := fix_eq hindcastlaw11_HeapRoom_B_fin _
set_option maxRecDepth 100000 in
theorem hindcastlaw11_HeapRoom_l0_ok (n : Nat)  (a0 : Int) (a1 : (List GHindcastlaw11Op)) (v0_8_0 : Int) (m0_7_0 : Int) (m0_7_1 : Int) (m0_7_2 : (List GApiObj)) (o0_1005 : GHeapHeap) (r_ : Bool) (Q' : Exit → St → Prop) (kr : ∀ (ns : List (Nat × Nat × Nat)) (s : LS) (x : Bool), retX Try.prog ns [.tmp 4] s = some (aB x) → x = r_ → Q' .ret s.st) (k_x_0 : ∀ (q : Nat), q < n → ∀ (o0_1005 : GHeapHeap) (s' : LS), recN hindcastlaw11_HeapRoom_B q (.j1 o0_1005) = some r_ → Fits s'.st (LS.mk 93 [(5, .ob 1005)] [(1005, some (.obj (.any (rep_GHeapHeap o0_1005))))]).st → Q' (.exit 0) s'.st) (h : recN hindcastlaw11_HeapRoom_B n (.l0 a0 a1 v0_8_0 m0_7_0 m0_7_1 m0_7_2 o0_1005) = some r_) : W Try.prog (subC (bodyC Try.prog 6) [1, 1, 1, 1, 1, 1, 0, 1, 0]) (LS.mk 93 [(0, aI .i64 a0), (1, .t (.sl 13 (a1.map c_GHindcastlaw11Op))), (5, .ob 1005), (7, .ptr 7 0), (8, aI .i64 v0_8_0)] [(7, some (.box 33 [aI .i64 m0_7_0, aI .i64 m0_7_1, .t (.sl 4 (m0_7_2.map c_GApiObj))])), (1005, some (.obj (.any (rep_GHeapHeap o0_1005))))]).st Q' := by
  refine W_fix (σ := Int × Int × Int × (List GApiObj) × GHeapHeap) (fun m x_ => m ≤ n ∧ recN hindcastlaw11_HeapRoom_B m (.l0 a0 a1 x_.1 x_.2.1 x_.2.2.1 x_.2.2.2.1 x_.2.2.2.2) = some r_) (fun x_ => LS.mk 93 [(0, aI .i64 a0), (1, .t (.sl 13 (a1.map c_GHindcastlaw11Op))), (5, .ob 1005), (7, .ptr 7 0), (8, aI .i64 x_.1)] [(7, some (.box 33 [aI .i64 x_.2.1, aI .i64 x_.2.2.1, .t (.sl 4 (x_.2.2.2.1.map c_GApiObj))])), (1005, some (.obj (.any (rep_GHeapHeap x_.2.2.2.2))))]) (fun x hx => by cases hx.2) (fun _ _ => rfl) ?_ n (v0_8_0, m0_7_0, m0_7_1, m0_7_2, o0_1005) ⟨Nat.le_refl _, h⟩
  clear h
  rintro m ⟨v0_8_0, m0_7_0, m0_7_1, m0_7_2, o0_1005⟩ ⟨hlt, h⟩
  replace h : hindcastlaw11_HeapRoom_l0_b (recN hindcastlaw11_HeapRoom_B m) a0 a1 v0_8_0 m0_7_0 m0_7_1 m0_7_2 o0_1005 = some r_ := h
  unfold hindcastlaw11_HeapRoom_l0_b at h
  refine W_seq ?_
  refine W_seq ?_
  refine W_y (s' := LS.mk 93 [(0, aI .i64 a0), (1, .t (.sl 13 (a1.map c_GHindcastlaw11Op))), (5, .ob 1005), (7, .ptr 7 0), (8, aI .i64 v0_8_0), (36, aB (decide (v0_8_0 < (a1.length : Int))))] [(7, some (.box 33 [aI .i64 m0_7_0, aI .i64 m0_7_1, .t (.sl 4 (m0_7_2.map c_GApiObj))])), (1005, some (.obj (.any (rep_GHeapHeap o0_1005))))]) mixed [qn0, qn0, qn (.len a1.length), qn0] ⟨[0, 1, 5, 7, 8, 36], [], [7], [], [(1005, 1005)], [], []⟩ (aC (len_obx c_GHindcastlaw11Op a1) aN) (by kernel_rfl) ?_
  refine W_cond (decide (v0_8_0 < (a1.length : Int))) (by kernel_rfl) (fun hb1001 => ?_) (fun hb1001 => ?_)
  · have hx1002 := hb1001
    have h := if_t h hx1002
    refine W_skip ?_
    refine W_seq ?_
    refine W_block ?_
    refine W_seq ?_
    obtain ⟨r11_1, hr11_1, h⟩ := bind_ok h
    have hr11_1 := xheap_Heap_All_ok hr11_1
    refine W_y (s' := LS.mk 93 [(0, aI .i64 a0), (1, .t (.sl 13 (a1.map c_GHindcastlaw11Op))), (5, .ob 1005), (7, .ptr 7 0), (8, aI .i64 v0_8_0), (9, aI .i64 (r11_1.length : Int))] [(7, some (.box 33 [aI .i64 m0_7_0, aI .i64 m0_7_1, .t (.sl 4 (m0_7_2.map c_GApiObj))])), (1005, some (.obj (.any (rep_GHeapHeap o0_1005))))]) mixed [qn0, qn (.io ⟨[], [(1005, 900)], [], [], [], [], [(900, 1005), (800000, 40)]⟩ (.ref 800000) [(900, .obj (.any (rep_GHeapHeap o0_1005))), (800000, .row 27 4 (r11_1.map c_GApiObj))]), qn (.len r11_1.length), qn0] ⟨[0, 1, 5, 7, 8, 9], [], [7], [], [(1005, 1005)], [], []⟩ (aC hr11_1 (aC (len_obx c_GApiObj r11_1) aN)) (by kernel_rfl) ?_
    refine W_seq ?_
    obtain ⟨r12_1, hr12_1, h⟩ := bind_ok h
    have hr12_1 := xheap_Heap_Cells_ok hr12_1
    refine W_y (s' := LS.mk 93 [(0, aI .i64 a0), (1, .t (.sl 13 (a1.map c_GHindcastlaw11Op))), (5, .ob 1005), (7, .ptr 7 0), (8, aI .i64 v0_8_0), (9, aI .i64 (r11_1.length : Int)), (10, aI .i64 r12_1)] [(7, some (.box 33 [aI .i64 m0_7_0, aI .i64 m0_7_1, .t (.sl 4 (m0_7_2.map c_GApiObj))])), (1005, some (.obj (.any (rep_GHeapHeap o0_1005))))]) mixed [qn0, qn (.io ⟨[], [(1005, 900)], [], [], [], [], [(900, 1005)]⟩ (aI .i64 r12_1) [(900, .obj (.any (rep_GHeapHeap o0_1005)))]), qn0] ⟨[0, 1, 5, 7, 8, 9, 10], [], [7], [], [(1005, 1005)], [], []⟩ (aC hr12_1 aN) (by kernel_rfl) ?_
    refine W_seq ?_
    obtain ⟨x13_4, hx13_4, h⟩ := bind_ok h
    obtain ⟨r13_6, hr13_6, h⟩ := bind_ok h
    have hr13_6 := hindcastlaw11_does_ok hr13_6
    refine W_y (s' := LS.mk 93 [(0, aI .i64 a0), (1, .t (.sl 13 (a1.map c_GHindcastlaw11Op))), (5, .ob 1005), (7, .ptr 7 0), (8, aI .i64 v0_8_0), (9, aI .i64 (r11_1.length : Int)), (10, aI .i64 r12_1)] [(7, some (.box 33 [aI .i64 r13_6.2.1.Room, aI .i64 r13_6.2.1.Cells, .t (.sl 4 (r13_6.2.1.L.map c_GApiObj))])), (1005, some (.obj (.any (rep_GHeapHeap r13_6.2.2))))]) mixed [qn0, qn0, qn0, qn0, qn (.ix (Int.toNat v0_8_0) (c_GHindcastlaw11Op x13_4)), qn0, qn (.io ⟨[], [(1005, 900)], [], [], [], [], [(900, 1005)]⟩ (.tup [aB r13_6.1, e_GHindcastref11H r13_6.2.1]) [(900, .obj (.any (rep_GHeapHeap r13_6.2.2)))]), qn0, qn0, qn0, qn0] ⟨[0, 1, 5, 7, 8, 9, 10], [], [7], [], [(1005, 1005)], [], []⟩ (aC (ix_obx c_GHindcastlaw11Op hx13_4) (aC hr13_6 aN)) (by kernel_rfl) ?_
    refine W_seq ?_
    obtain ⟨r14_1, hr14_1, h⟩ := bind_ok h
    have hr14_1 := xheap_Heap_Cells_ok hr14_1
    refine (Bool.eq_false_or_eq_true (decide (r14_1 > a0))).elim (fun hb1003 => ?_) (fun hb1003 => ?_)
    · have hx1004 := hb1003
      have h := if_t h hx1004
      refine W_y (s' := LS.mk 93 [(0, aI .i64 a0), (1, .t (.sl 13 (a1.map c_GHindcastlaw11Op))), (5, .ob 1005), (7, .ptr 7 0), (8, aI .i64 v0_8_0), (70, aB true)] [(7, some (.box 33 [aI .i64 r13_6.2.1.Room, aI .i64 r13_6.2.1.Cells, .t (.sl 4 (r13_6.2.1.L.map c_GApiObj))])), (1005, some (.obj (.any (rep_GHeapHeap r13_6.2.2))))]) mixed [qn0, qn (.io ⟨[], [(1005, 900)], [], [], [], [], [(900, 1005)]⟩ (aI .i64 r14_1) [(900, .obj (.any (rep_GHeapHeap r13_6.2.2)))]), qn0, qn0, qn0, qt0, qt0, qt0, qt0, qt0, qt0, qn0, qn0, qn0, qn0, qt0, qn (.dec true)] ⟨[0, 1, 5, 7, 8, 70], [], [7], [], [(1005, 1005)], [], []⟩ (aC hr14_1 (aC hx1004 (aC hx1004 (aC hx1004 (aC hx1004 (aC hx1004 (aC hx1004 (aC hx1004 (aC hx1004 aN))))))))) (by kernel_rfl) ?_
      refine W_cond true (by kernel_rfl) (fun _ => ?_) (fun hb => nomatch ((rfl : true = true).symm.trans hb))
      refine W_seq ?_
      refine W_y (s' := LS.mk 93 [(4, aB false)] []) mixed [qn0] ⟨[4], [], [], [], [], [], []⟩ aN (by kernel_rfl) ?_
      refine W_ret ?_
      exact kr [] _ _ (by kernel_rfl) (Option.some.inj h)
    · have hx1004 := hb1003
      have h := if_f h hx1004
      obtain ⟨r14_6, hr14_6, h⟩ := bind_ok h
      have hr14_6 := xheap_Heap_All_ok hr14_6
      refine (Bool.eq_false_or_eq_true (decide ((r14_6.length : Int) = (r11_1.length : Int)))).elim (fun hb1005 => ?_) (fun hb1005 => ?_)
      · have hx1006 := hb1005
        have h := if_t h hx1006
        obtain ⟨r14_12, hr14_12, h⟩ := bind_ok h
        have hr14_12 := xheap_Heap_Cells_ok hr14_12
        refine W_y (s' := LS.mk 93 [(0, aI .i64 a0), (1, .t (.sl 13 (a1.map c_GHindcastlaw11Op))), (5, .ob 1005), (7, .ptr 7 0), (8, aI .i64 v0_8_0), (70, aB (!(decide (r14_12 = r12_1))))] [(7, some (.box 33 [aI .i64 r13_6.2.1.Room, aI .i64 r13_6.2.1.Cells, .t (.sl 4 (r13_6.2.1.L.map c_GApiObj))])), (1005, some (.obj (.any (rep_GHeapHeap r13_6.2.2))))]) mixed [qn0, qn (.io ⟨[], [(1005, 900)], [], [], [], [], [(900, 1005)]⟩ (aI .i64 r14_1) [(900, .obj (.any (rep_GHeapHeap r13_6.2.2)))]), qn0, qn0, qn0, qf0, qf (.io ⟨[], [(1005, 900)], [], [], [], [], [(900, 1005), (800000, 60)]⟩ (.ref 800000) [(900, .obj (.any (rep_GHeapHeap r13_6.2.2))), (800000, .row 27 4 (r14_6.map c_GApiObj))]), qf (.len r14_6.length), qf0, qf0, qf0, qt0, qt (.io ⟨[], [(1005, 900)], [], [], [], [], [(900, 1005)]⟩ (aI .i64 r14_12) [(900, .obj (.any (rep_GHeapHeap r13_6.2.2)))]), qt0, qt0, qf (.dec true), qn (.dec false)] ⟨[0, 1, 5, 7, 8, 70], [], [7], [], [(1005, 1005)], [], []⟩ (aC hr14_1 (aC hx1004 (aC hx1004 (aC hr14_6 (aC hx1004 (aC (len_obx c_GApiObj r14_6) (aC hx1004 (aC hx1004 (aC hx1004 (aC hx1006 (aC hx1006 (aC hr14_12 (aC hx1006 (aC hx1006 (aC hx1004 (aC hx1006 (aC hx1004 aN))))))))))))))))) (by kernel_rfl) ?_
        refine W_cond (!(decide (r14_12 = r12_1))) (by kernel_rfl) (fun hb1007 => ?_) (fun hb1007 => ?_)
        · have hx1008 : (decide (r14_12 = r12_1)) = false := (bnot_t hb1007)
          have h := if_f h hx1008
          refine W_seq ?_
          refine W_y (s' := LS.mk 93 [(4, aB false)] []) mixed [qn0] ⟨[4], [], [], [], [], [], []⟩ aN (by kernel_rfl) ?_
          refine W_ret ?_
          exact kr [] _ _ (by kernel_rfl) (Option.some.inj h)
        · have hx1008 : (decide (r14_12 = r12_1)) = true := (bnot_f hb1007)
          have h := if_t h hx1008
          refine W_skip ?_
          refine W_y (s' := LS.mk 93 [(0, aI .i64 a0), (1, .t (.sl 13 (a1.map c_GHindcastlaw11Op))), (5, .ob 1005), (7, .ptr 7 0), (8, aI .i64 (w64 (v0_8_0 + 1)))] [(7, some (.box 33 [aI .i64 r13_6.2.1.Room, aI .i64 r13_6.2.1.Cells, .t (.sl 4 (r13_6.2.1.L.map c_GApiObj))])), (1005, some (.obj (.any (rep_GHeapHeap r13_6.2.2))))]) mixed [qn0, qn0, qn0] ⟨[0, 1, 5, 7, 8], [], [7], [], [(1005, 1005)], [], []⟩ aN (by kernel_rfl) ?_
          exact ⟨m, ((w64 (v0_8_0 + 1)), r13_6.2.1.Room, r13_6.2.1.Cells, r13_6.2.1.L, r13_6.2.2), Nat.le_refl _, ⟨Nat.le_of_lt hlt, h⟩, convX_fits (v := ⟨[0, 1, 5, 7, 8], [], [7], [], [(1005, 1005)], [], []⟩) (s' := LS.mk 93 [(0, aI .i64 a0), (1, .t (.sl 13 (a1.map c_GHindcastlaw11Op))), (5, .ob 1005), (7, .ptr 7 0), (8, aI .i64 (w64 (v0_8_0 + 1)))] [(7, some (.box 33 [aI .i64 r13_6.2.1.Room, aI .i64 r13_6.2.1.Cells, .t (.sl 4 (r13_6.2.1.L.map c_GApiObj))])), (1005, some (.obj (.any (rep_GHeapHeap r13_6.2.2))))]) (by kernel_rfl)⟩
      · have hx1006 := hb1005
        have h := if_f h hx1006
        refine W_y (s' := LS.mk 93 [(0, aI .i64 a0), (1, .t (.sl 13 (a1.map c_GHindcastlaw11Op))), (5, .ob 1005), (7, .ptr 7 0), (8, aI .i64 v0_8_0), (70, aB false)] [(7, some (.box 33 [aI .i64 r13_6.2.1.Room, aI .i64 r13_6.2.1.Cells, .t (.sl 4 (r13_6.2.1.L.map c_GApiObj))])), (1005, some (.obj (.any (rep_GHeapHeap r13_6.2.2))))]) mixed [qn0, qn (.io ⟨[], [(1005, 900)], [], [], [], [], [(900, 1005)]⟩ (aI .i64 r14_1) [(900, .obj (.any (rep_GHeapHeap r13_6.2.2)))]), qn0, qn0, qn0, qf0, qf (.io ⟨[], [(1005, 900)], [], [], [], [], [(900, 1005), (800000, 60)]⟩ (.ref 800000) [(900, .obj (.any (rep_GHeapHeap r13_6.2.2))), (800000, .row 27 4 (r14_6.map c_GApiObj))]), qf (.len r14_6.length), qf0, qf0, qf0, qf0, qf0, qf0, qf0, qf (.dec false), qn (.dec false)] ⟨[0, 1, 5, 7, 8, 70], [], [7], [], [(1005, 1005)], [], []⟩ (aC hr14_1 (aC hx1004 (aC hx1004 (aC hr14_6 (aC hx1004 (aC (len_obx c_GApiObj r14_6) (aC hx1004 (aC hx1004 (aC hx1004 (aC hx1006 (aC hx1006 (aC hx1006 (aC hx1006 (aC hx1004 (aC hx1006 (aC hx1004 aN)))))))))))))))) (by kernel_rfl) ?_
        refine W_cond false (by kernel_rfl) (fun hb => nomatch ((rfl : false = false).symm.trans hb)) (fun _ => ?_)
        refine W_skip ?_
        refine W_y (s' := LS.mk 93 [(0, aI .i64 a0), (1, .t (.sl 13 (a1.map c_GHindcastlaw11Op))), (5, .ob 1005), (7, .ptr 7 0), (8, aI .i64 (w64 (v0_8_0 + 1)))] [(7, some (.box 33 [aI .i64 r13_6.2.1.Room, aI .i64 r13_6.2.1.Cells, .t (.sl 4 (r13_6.2.1.L.map c_GApiObj))])), (1005, some (.obj (.any (rep_GHeapHeap r13_6.2.2))))]) mixed [qn0, qn0, qn0] ⟨[0, 1, 5, 7, 8], [], [7], [], [(1005, 1005)], [], []⟩ aN (by kernel_rfl) ?_
        exact ⟨m, ((w64 (v0_8_0 + 1)), r13_6.2.1.Room, r13_6.2.1.Cells, r13_6.2.1.L, r13_6.2.2), Nat.le_refl _, ⟨Nat.le_of_lt hlt, h⟩, convX_fits (v := ⟨[0, 1, 5, 7, 8], [], [7], [], [(1005, 1005)], [], []⟩) (s' := LS.mk 93 [(0, aI .i64 a0), (1, .t (.sl 13 (a1.map c_GHindcastlaw11Op))), (5, .ob 1005), (7, .ptr 7 0), (8, aI .i64 (w64 (v0_8_0 + 1)))] [(7, some (.box 33 [aI .i64 r13_6.2.1.Room, aI .i64 r13_6.2.1.Cells, .t (.sl 4 (r13_6.2.1.L.map c_GApiObj))])), (1005, some (.obj (.any (rep_GHeapHeap r13_6.2.2))))]) (by kernel_rfl)⟩
  · have hx1002 := hb1001
    have h := if_f h hx1002
    refine W_exit ?_
    exact k_x_0 m hlt o0_1005 _ h (convX_fits (v := ⟨[5], [], [], [], [(1005, 1005)], [], []⟩) (s' := LS.mk 93 [(5, .ob 1005)] [(1005, some (.obj (.any (rep_GHeapHeap o0_1005))))]) (by kernel_rfl))
set_option maxRecDepth 100000 in
theorem hindcastlaw11_HeapRoom_l2_ok (n : Nat)  (v2_11_0 : Int) (v2_13_0 : Int) (o0_1005 : GHeapHeap) (r18_1 : (List GApiObj)) (r_ : Bool) (Q' : Exit → St → Prop) (kr : ∀ (ns : List (Nat × Nat × Nat)) (s : LS) (x : Bool), retX Try.prog ns [.tmp 4] s = some (aB x) → x = r_ → Q' .ret s.st) (k_x_2 : ∀ (q : Nat), q < n → ∀ (v2_11_0 : Int) (s' : LS), recN hindcastlaw11_HeapRoom_B q (.j3 v2_11_0 o0_1005) = some r_ → Fits s'.st (LS.mk 93 [(5, .ob 1005), (11, aI .i64 v2_11_0)] [(1005, some (.obj (.any (rep_GHeapHeap o0_1005))))]).st → Q' (.exit 2) s'.st) (h : recN hindcastlaw11_HeapRoom_B n (.l2 v2_11_0 v2_13_0 o0_1005 r18_1) = some r_) : W Try.prog (subC (bodyC Try.prog 6) [1, 1, 1, 1, 1, 1, 1, 1, 1, 0, 1, 0]) (LS.mk 93 [(5, .ob 1005), (11, aI .i64 v2_11_0), (12, .ref 1012), (13, aI .i64 v2_13_0)] [(1005, some (.obj (.any (rep_GHeapHeap o0_1005)))), (1012, some (.row 27 4 (r18_1.map c_GApiObj)))]).st Q' := by
  refine W_fix (σ := Int × Int) (fun m x_ => m ≤ n ∧ recN hindcastlaw11_HeapRoom_B m (.l2 x_.1 x_.2 o0_1005 r18_1) = some r_) (fun x_ => LS.mk 93 [(5, .ob 1005), (11, aI .i64 x_.1), (12, .ref 1012), (13, aI .i64 x_.2)] [(1005, some (.obj (.any (rep_GHeapHeap o0_1005)))), (1012, some (.row 27 4 (r18_1.map c_GApiObj)))]) (fun x hx => by cases hx.2) (fun _ _ => rfl) ?_ n (v2_11_0, v2_13_0) ⟨Nat.le_refl _, h⟩
  clear h
  rintro m ⟨v2_11_0, v2_13_0⟩ ⟨hlt, h⟩
  replace h : hindcastlaw11_HeapRoom_l2_b (recN hindcastlaw11_HeapRoom_B m) v2_11_0 v2_13_0 o0_1005 r18_1 = some r_ := h
  unfold hindcastlaw11_HeapRoom_l2_b at h
  refine W_seq ?_
  refine W_seq ?_
  refine W_y (s' := LS.mk 93 [(5, .ob 1005), (11, aI .i64 v2_11_0), (12, .ref 1012), (13, aI .i64 v2_13_0), (76, aB (decide (v2_13_0 < (r18_1.length : Int))))] [(1005, some (.obj (.any (rep_GHeapHeap o0_1005)))), (1012, some (.row 27 4 (r18_1.map c_GApiObj)))]) mixed [qn0, qn0, qn (.len r18_1.length), qn0] ⟨[5, 11, 12, 13, 76], [], [], [], [(1005, 1005), (1012, 1012)], [], []⟩ (aC (len_obx c_GApiObj r18_1) aN) (by kernel_rfl) ?_
  refine W_cond (decide (v2_13_0 < (r18_1.length : Int))) (by kernel_rfl) (fun hb3001 => ?_) (fun hb3001 => ?_)
  · have hx3002 := hb3001
    have h := if_t h hx3002
    refine W_skip ?_
    refine W_seq ?_
    refine W_block ?_
    obtain ⟨x21_3, hx21_3, h⟩ := bind_ok h
    obtain ⟨r21_5, hr21_5, h⟩ := bind_ok h
    have hr21_5 := hindcastref11_Cost_ok hr21_5
    refine W_y (s' := LS.mk 93 [(5, .ob 1005), (11, aI .i64 (w64 (v2_11_0 + r21_5))), (12, .ref 1012), (13, aI .i64 v2_13_0)] [(1005, some (.obj (.any (rep_GHeapHeap o0_1005)))), (1012, some (.row 27 4 (r18_1.map c_GApiObj)))]) mixed [qn0, qn0, qn0, qn (.ix (Int.toNat v2_13_0) (c_GApiObj x21_3)), qn (.ix (Int.toNat v2_13_0) (c_GApiObj x21_3)), qn (.call [] (aI .i64 r21_5)), qn0, qn0] ⟨[5, 11, 12, 13], [], [], [], [(1005, 1005), (1012, 1012)], [], []⟩ (aC (ix_obx c_GApiObj hx21_3) (aC (el_obx c_GApiObj hx21_3) (aC hr21_5 aN))) (by kernel_rfl) ?_
    refine W_y (s' := LS.mk 93 [(5, .ob 1005), (11, aI .i64 (w64 (v2_11_0 + r21_5))), (12, .ref 1012), (13, aI .i64 (w64 (v2_13_0 + 1)))] [(1005, some (.obj (.any (rep_GHeapHeap o0_1005)))), (1012, some (.row 27 4 (r18_1.map c_GApiObj)))]) mixed [qn0, qn0, qn0] ⟨[5, 11, 12, 13], [], [], [], [(1005, 1005), (1012, 1012)], [], []⟩ aN (by kernel_rfl) ?_
    exact ⟨m, ((w64 (v2_11_0 + r21_5)), (w64 (v2_13_0 + 1))), Nat.le_refl _, ⟨Nat.le_of_lt hlt, h⟩, convX_fits (v := ⟨[5, 11, 12, 13], [], [], [], [(1005, 1005), (1012, 1012)], [], []⟩) (s' := LS.mk 93 [(5, .ob 1005), (11, aI .i64 (w64 (v2_11_0 + r21_5))), (12, .ref 1012), (13, aI .i64 (w64 (v2_13_0 + 1)))] [(1005, some (.obj (.any (rep_GHeapHeap o0_1005)))), (1012, some (.row 27 4 (r18_1.map c_GApiObj)))]) (by kernel_rfl)⟩
  · have hx3002 := hb3001
    have h := if_f h hx3002
    refine W_exit ?_
    exact k_x_2 m hlt v2_11_0 _ h (convX_fits (v := ⟨[5, 11], [], [], [], [(1005, 1005)], [], []⟩) (s' := LS.mk 93 [(5, .ob 1005), (11, aI .i64 v2_11_0)] [(1005, some (.obj (.any (rep_GHeapHeap o0_1005))))]) (by kernel_rfl))
set_option maxRecDepth 100000 in
theorem hindcastlaw11_HeapRoom_j3_ok (n : Nat)  (v2_11_0 : Int) (o0_1005 : GHeapHeap) (r_ : Bool) (Q' : Exit → St → Prop) (kr : ∀ (ns : List (Nat × Nat × Nat)) (s : LS) (x : Bool), retX Try.prog ns [.tmp 4] s = some (aB x) → x = r_ → Q' .ret s.st)  (h : recN hindcastlaw11_HeapRoom_B n (.j3 v2_11_0 o0_1005) = some r_) : W Try.prog (subC (bodyC Try.prog 6) [1, 1, 1, 1, 1, 1, 1, 1, 1, 1]) (LS.mk 93 [(5, .ob 1005), (11, aI .i64 v2_11_0)] [(1005, some (.obj (.any (rep_GHeapHeap o0_1005))))]).st Q' := by
  cases n with
  | zero => cases h
  | succ m =>
  have hlt : m < m + 1 := Nat.lt_succ_self m
  replace h : hindcastlaw11_HeapRoom_j3_b (recN hindcastlaw11_HeapRoom_B m) v2_11_0 o0_1005 = some r_ := h
  unfold hindcastlaw11_HeapRoom_j3_b at h
  refine W_seq ?_
  obtain ⟨r23_2, hr23_2, h⟩ := bind_ok h
  have hr23_2 := xheap_Heap_Cells_ok hr23_2
  refine (Bool.eq_false_or_eq_true (decide (v2_11_0 = r23_2))).elim (fun hb4001 => ?_) (fun hb4001 => ?_)
  · have hx4002 := hb4001
    have h := if_t h hx4002
    obtain ⟨r23_5, hr23_5, h⟩ := bind_ok h
    have hr23_5 := hindcastlaw11_awake_ok hr23_5
    refine W_y (s' := LS.mk 93 [(4, aB r23_5)] []) mixed [qn0, qn0, qn (.io ⟨[], [(1005, 900)], [], [], [], [], [(900, 1005)]⟩ (aI .i64 r23_2) [(900, .obj (.any (rep_GHeapHeap o0_1005)))]), qn0, qn0, qt (.call [] (aB r23_5)), qn (.dec true), qn0] ⟨[4], [], [], [], [], [], []⟩ (aC hr23_2 (aC hx4002 (aC hr23_5 (aC hx4002 aN)))) (by kernel_rfl) ?_
    refine W_ret ?_
    exact kr [] _ _ (by kernel_rfl) (Option.some.inj h)
  · have hx4002 := hb4001
    have h := if_f h hx4002
    refine W_y (s' := LS.mk 93 [(4, aB false)] []) mixed [qn0, qn0, qn (.io ⟨[], [(1005, 900)], [], [], [], [], [(900, 1005)]⟩ (aI .i64 r23_2) [(900, .obj (.any (rep_GHeapHeap o0_1005)))]), qn0, qn0, qf0, qn (.dec false), qn0] ⟨[4], [], [], [], [], [], []⟩ (aC hr23_2 (aC hx4002 (aC hx4002 aN))) (by kernel_rfl) ?_
    refine W_ret ?_
    exact kr [] _ _ (by kernel_rfl) (Option.some.inj h)
set_option maxRecDepth 100000 in
theorem hindcastlaw11_HeapRoom_j1_ok (n : Nat)  (o0_1005 : GHeapHeap) (r_ : Bool) (Q' : Exit → St → Prop) (kr : ∀ (ns : List (Nat × Nat × Nat)) (s : LS) (x : Bool), retX Try.prog ns [.tmp 4] s = some (aB x) → x = r_ → Q' .ret s.st)  (h : recN hindcastlaw11_HeapRoom_B n (.j1 o0_1005) = some r_) : W Try.prog (subC (bodyC Try.prog 6) [1, 1, 1, 1, 1, 1, 1]) (LS.mk 93 [(5, .ob 1005)] [(1005, some (.obj (.any (rep_GHeapHeap o0_1005))))]).st Q' := by
  cases n with
  | zero => cases h
  | succ m =>
  have hlt : m < m + 1 := Nat.lt_succ_self m
  replace h : hindcastlaw11_HeapRoom_j1_b (recN hindcastlaw11_HeapRoom_B m) o0_1005 = some r_ := h
  unfold hindcastlaw11_HeapRoom_j1_b at h
  refine W_seq ?_
  refine W_y (s' := LS.mk 93 [(5, .ob 1005), (11, aI .i64 0)] [(1005, some (.obj (.any (rep_GHeapHeap o0_1005))))]) mixed [qn0] ⟨[5, 11], [], [], [], [(1005, 1005)], [], []⟩ aN (by kernel_rfl) ?_
  refine W_seq ?_
  obtain ⟨r18_1, hr18_1, h⟩ := bind_ok h
  have hr18_1 := xheap_Heap_All_ok hr18_1
  refine W_y (s' := LS.mk 93 [(5, .ob 1005), (11, aI .i64 0), (12, .ref 1012)] [(1012, some (.row 27 4 (r18_1.map c_GApiObj))), (1005, some (.obj (.any (rep_GHeapHeap o0_1005))))]) mixed [qn0, qn (.io ⟨[], [(1005, 900)], [], [], [], [], [(900, 1005), (800000, 72)]⟩ (.ref 800000) [(900, .obj (.any (rep_GHeapHeap o0_1005))), (800000, .row 27 4 (r18_1.map c_GApiObj))]), qn0] ⟨[5, 11, 12], [], [], [], [(72, 1012), (1005, 1005)], [], []⟩ (aC hr18_1 aN) (by kernel_rfl) ?_
  refine W_seq ?_
  refine W_seq ?_
  refine W_y (s' := LS.mk 93 [(5, .ob 1005), (11, aI .i64 0), (12, .ref 1012), (13, aI .i64 0)] [(1005, some (.obj (.any (rep_GHeapHeap o0_1005)))), (1012, some (.row 27 4 (r18_1.map c_GApiObj)))]) mixed [qn0] ⟨[5, 11, 12, 13], [], [], [], [(1005, 1005), (1012, 1012)], [], []⟩ aN (by kernel_rfl) ?_
  refine W_block ?_
  exact W_conv (s' := LS.mk 93 [(5, .ob 1005), (11, aI .i64 0), (12, .ref 1012), (13, aI .i64 0)] [(1005, some (.obj (.any (rep_GHeapHeap o0_1005)))), (1012, some (.row 27 4 (r18_1.map c_GApiObj)))]) ⟨[5, 11, 12, 13], [], [], [], [(1005, 1005), (1012, 1012)], [], []⟩ (by kernel_rfl) (hindcastlaw11_HeapRoom_l2_ok m 0 0 o0_1005 r18_1 r_ _ kr (fun q1 hq1 v2_11_0 s' h hf => W_pre hf (hindcastlaw11_HeapRoom_j3_ok q1 v2_11_0 o0_1005 r_ _ kr h)) h)
noncomputable def hindcastlaw11_HeapRoom (a0 : Int) (a1 : (List GHindcastlaw11Op)) : Option Bool :=
  ((xheap_New a0).bind fun (r1_1 : ((Option GHeapHeap) × Int)) => optCase r1_1.1 (if r1_1.2 = 0 then (some false) else ((hindcastlaw11_awake).bind fun (r3_3 : Bool) => (some r3_3))) fun (y1_1 : GHeapHeap) => (if r1_1.2 = 0 then ((hindcastlaw11_great a1).bind fun (r6_1 : Bool) => (if r6_1 = true then ((hindcastlaw11_awake).bind fun (r7_0 : Bool) => (some r7_0)) else hindcastlaw11_HeapRoom_l0 a0 a1 0 a0 0 ([] : List GApiObj) y1_1)) else (some false)))
set_option maxRecDepth 100000 in
theorem hindcastlaw11_HeapRoom_ok {a0 : Int} {a1 : (List GHindcastlaw11Op)} {r_ : Bool} (h : hindcastlaw11_HeapRoom a0 a1 = some r_) : R_hindcastlaw11_HeapRoom a0 a1 r_ := by
  unfold hindcastlaw11_HeapRoom at h
  refine fn_pureX (fn := Try.f6) (by kernel_rfl) (c := subC (bodyC Try.prog 6) []) (by kernel_rfl) (by kernel_rfl) (Nat.le_of_ble_eq_true (by kernel_rfl)) ?_
  generalize hQ' : retQ Try.prog Try.f6 (aB r_) = Q'
  have kr : ∀ (ns : List (Nat × Nat × Nat)) (s : LS) (x : Bool), retX Try.prog ns [.tmp 4] s = some (aB x) → x = r_ → Q' .ret s.st := by subst hQ'; intro ns s x hx hq; subst hq; exact ret_ok (fn := Try.f6) ns hx
  change W Try.prog _ (LS.mk 93 [(0, aI .i64 a0), (1, .t (.sl 13 (a1.map c_GHindcastlaw11Op)))] []).st Q'
  refine W_seq ?_
  refine W_y (s' := LS.mk 93 [(0, aI .i64 a0), (1, .t (.sl 13 (a1.map c_GHindcastlaw11Op)))] []) mixed [qn0] ⟨[0, 1], [], [], [], [], [], []⟩ aN (by kernel_rfl) ?_
  refine W_seq ?_
  obtain ⟨r1_1, hr1_1, h⟩ := bind_ok h
  have hr1_1 := xheap_New_ok hr1_1
  unfold RI_heap_New at hr1_1
  cases hc_y1_1 : r1_1.1 with
  | none =>
    rw [hc_y1_1] at hr1_1
    have h := oc_nx hc_y1_1 h
    refine W_y (s' := LS.mk 93 [(0, aI .i64 a0), (1, .t (.sl 13 (a1.map c_GHindcastlaw11Op))), (5, aPnil), (6, aI .i64 r1_1.2)] []) mixed [qn0, qn (.io ⟨[], [], [], [], [], [], []⟩ (.tup [aPnil, aI .i64 r1_1.2]) []), qn0, qn0, qn0, qn0, qn0] ⟨[0, 1, 5, 6], [], [], [], [], [], []⟩ (aC hr1_1 aN) (by kernel_rfl) ?_
    refine W_seq ?_
    refine W_seq ?_
    refine W_y (s' := LS.mk 93 [(0, aI .i64 a0), (1, .t (.sl 13 (a1.map c_GHindcastlaw11Op))), (5, aPnil), (20, aB (!(decide (r1_1.2 = 0))))] []) mixed [qn0, qn0] ⟨[0, 1, 5, 20], [], [], [], [], [], []⟩ aN (by kernel_rfl) ?_
    refine W_cond (!(decide (r1_1.2 = 0))) (by kernel_rfl) (fun hb1 => ?_) (fun hb1 => ?_)
    · have hx2 : (decide (r1_1.2 = 0)) = false := (bnot_t hb1)
      have h := if_f h hx2
      refine W_seq ?_
      obtain ⟨r3_3, hr3_3, h⟩ := bind_ok h
      have hr3_3 := hindcastlaw11_awake_ok hr3_3
      refine W_y (s' := LS.mk 93 [(4, aB r3_3)] []) mixed [qn0, qn0, qn0, qn (.call [] (aB r3_3)), qn0, qn0] ⟨[4], [], [], [], [], [], []⟩ (aC hr3_3 aN) (by kernel_rfl) ?_
      refine W_ret ?_
      exact kr [] _ _ (by kernel_rfl) (Option.some.inj h)
    · have hx2 : (decide (r1_1.2 = 0)) = true := (bnot_f hb1)
      have h := if_t h hx2
      refine W_skip ?_
      refine W_seq ?_
      refine W_seq ?_
      refine W_y (s' := LS.mk 93 [(0, aI .i64 a0), (1, .t (.sl 13 (a1.map c_GHindcastlaw11Op))), (5, aPnil), (27, aB true)] []) mixed [qn0, qn0] ⟨[0, 1, 5, 27], [], [], [], [], [], []⟩ aN (by kernel_rfl) ?_
      refine W_cond true (by kernel_rfl) (fun _ => ?_) (fun hb => nomatch ((rfl : true = true).symm.trans hb))
      refine W_seq ?_
      refine W_y (s' := LS.mk 93 [(4, aB false)] []) mixed [qn0] ⟨[4], [], [], [], [], [], []⟩ aN (by kernel_rfl) ?_
      refine W_ret ?_
      exact kr [] _ _ (by kernel_rfl) (Option.some.inj h)
  | some y1_1 =>
    rw [hc_y1_1] at hr1_1
    have h := oc_sx hc_y1_1 h
    refine W_y (s' := LS.mk 93 [(0, aI .i64 a0), (1, .t (.sl 13 (a1.map c_GHindcastlaw11Op))), (5, .ob 1005), (6, aI .i64 r1_1.2)] [(1005, some (.obj (.any (rep_GHeapHeap y1_1))))]) mixed [qn0, qn (.io ⟨[], [], [], [], [], [], [(700000, 16)]⟩ (.tup [.ob 700000, aI .i64 r1_1.2]) [(700000, .obj (.any (rep_GHeapHeap y1_1)))]), qn0, qn0, qn0, qn0, qn0] ⟨[0, 1, 5, 6], [], [], [], [(16, 1005)], [], []⟩ (aC hr1_1 aN) (by kernel_rfl) ?_
    refine W_seq ?_
    refine W_seq ?_
    refine W_y (s' := LS.mk 93 [(0, aI .i64 a0), (1, .t (.sl 13 (a1.map c_GHindcastlaw11Op))), (5, .ob 1005), (20, aB (!(decide (r1_1.2 = 0))))] [(1005, some (.obj (.any (rep_GHeapHeap y1_1))))]) mixed [qn0, qn0] ⟨[0, 1, 5, 20], [], [], [], [(1005, 1005)], [], []⟩ aN (by kernel_rfl) ?_
    refine W_cond (!(decide (r1_1.2 = 0))) (by kernel_rfl) (fun hb3 => ?_) (fun hb3 => ?_)
    · have hx4 : (decide (r1_1.2 = 0)) = false := (bnot_t hb3)
      have h := if_f h hx4
      refine W_seq ?_
      refine W_y (s' := LS.mk 93 [(4, aB false)] []) mixed [qn0, qn0, qn0, qn0, qn0, qn0] ⟨[4], [], [], [], [], [], []⟩ aN (by kernel_rfl) ?_
      refine W_ret ?_
      exact kr [] _ _ (by kernel_rfl) (Option.some.inj h)
    · have hx4 : (decide (r1_1.2 = 0)) = true := (bnot_f hb3)
      have h := if_t h hx4
      refine W_skip ?_
      refine W_seq ?_
      refine W_seq ?_
      refine W_y (s' := LS.mk 93 [(0, aI .i64 a0), (1, .t (.sl 13 (a1.map c_GHindcastlaw11Op))), (5, .ob 1005), (27, aB false)] [(1005, some (.obj (.any (rep_GHeapHeap y1_1))))]) mixed [qn0, qn0] ⟨[0, 1, 5, 27], [], [], [], [(1005, 1005)], [], []⟩ aN (by kernel_rfl) ?_
      refine W_cond false (by kernel_rfl) (fun hb => nomatch ((rfl : false = false).symm.trans hb)) (fun _ => ?_)
      refine W_skip ?_
      refine W_seq ?_
      refine W_seq ?_
      obtain ⟨r6_1, hr6_1, h⟩ := bind_ok h
      have hr6_1 := hindcastlaw11_great_ok hr6_1
      refine W_y (s' := LS.mk 93 [(0, aI .i64 a0), (1, .t (.sl 13 (a1.map c_GHindcastlaw11Op))), (5, .ob 1005), (29, aB r6_1)] [(1005, some (.obj (.any (rep_GHeapHeap y1_1))))]) mixed [qn0, qn (.call [] (aB r6_1))] ⟨[0, 1, 5, 29], [], [], [], [(1005, 1005)], [], []⟩ (aC hr6_1 aN) (by kernel_rfl) ?_
      refine W_cond r6_1 (by kernel_rfl) (fun hb5 => ?_) (fun hb5 => ?_)
      · have hx6 := hb5
        have h := ib_t h hx6
        refine W_seq ?_
        obtain ⟨r7_0, hr7_0, h⟩ := bind_ok h
        have hr7_0 := hindcastlaw11_awake_ok hr7_0
        refine W_y (s' := LS.mk 93 [(4, aB r7_0)] []) mixed [qn (.call [] (aB r7_0)), qn0] ⟨[4], [], [], [], [], [], []⟩ (aC hr7_0 aN) (by kernel_rfl) ?_
        refine W_ret ?_
        exact kr [] _ _ (by kernel_rfl) (Option.some.inj h)
      · have hx6 := hb5
        have h := ib_f h hx6
        refine W_skip ?_
        refine W_seq ?_
        refine W_y (s' := LS.mk 93 [(0, aI .i64 a0), (1, .t (.sl 13 (a1.map c_GHindcastlaw11Op))), (5, .ob 1005), (7, .ptr 7 0)] [(7, some (.box 33 [aI .i64 a0, aI .i64 0, aNil])), (1005, some (.obj (.any (rep_GHeapHeap y1_1))))]) mixed [qn0, qn0, qn0, qn0] ⟨[0, 1, 5, 7], [], [7], [], [(1005, 1005)], [], []⟩ aN (by kernel_rfl) ?_
        refine W_seq ?_
        refine W_seq ?_
        refine W_y (s' := LS.mk 93 [(0, aI .i64 a0), (1, .t (.sl 13 (a1.map c_GHindcastlaw11Op))), (5, .ob 1005), (7, .ptr 7 0), (8, aI .i64 0)] [(7, some (.box 33 [aI .i64 a0, aI .i64 0, aNil])), (1005, some (.obj (.any (rep_GHeapHeap y1_1))))]) mixed [qn0] ⟨[0, 1, 5, 7, 8], [], [7], [], [(1005, 1005)], [], []⟩ aN (by kernel_rfl) ?_
        refine W_block ?_
        obtain ⟨n, h⟩ := fix_rec h
        exact W_conv (s' := LS.mk 93 [(0, aI .i64 a0), (1, .t (.sl 13 (a1.map c_GHindcastlaw11Op))), (5, .ob 1005), (7, .ptr 7 0), (8, aI .i64 0)] [(7, some (.box 33 [aI .i64 a0, aI .i64 0, .t (.sl 4 (([] : List GApiObj).map c_GApiObj))])), (1005, some (.obj (.any (rep_GHeapHeap y1_1))))]) ⟨[0, 1, 5, 7, 8], [], [7], [(7, 2, .sl 4)], [(1005, 1005)], [], []⟩ (by kernel_rfl) (hindcastlaw11_HeapRoom_l0_ok n a0 a1 0 a0 0 ([] : List GApiObj) y1_1 r_ _ kr (fun q1 hq1 o0_1005 s' h hf => W_pre hf (hindcastlaw11_HeapRoom_j1_ok q1 o0_1005 r_ _ kr h)) h)
def R_hindcastlaw11_HeapNil (a0 : GHindcastlaw11Op) (r : Bool) : Prop := FnP Try.prog 7 [e_GHindcastlaw11Op a0] (aB r)
noncomputable def hindcastlaw11_HeapNil_j0  : Option Bool :=
  ((hindcastlaw11_awake).bind fun (r2_0 : Bool) => (some r2_0))
set_option maxRecDepth 100000 in
theorem hindcastlaw11_HeapNil_j0_ok  (r_ : Bool) (Q' : Exit → St → Prop) (kr : ∀ (ns : List (Nat × Nat × Nat)) (s : LS) (x : Bool), retX Try.prog ns [.tmp 2] s = some (aB x) → x = r_ → Q' .ret s.st)  (h : hindcastlaw11_HeapNil_j0  = some r_) : W Try.prog (subC (bodyC Try.prog 7) [1, 0, 1, 0]) (LS.mk 157 [] []).st Q' := by
  unfold hindcastlaw11_HeapNil_j0 at h
  refine W_seq ?_
  obtain ⟨r2_0, hr2_0, h⟩ := bind_ok h
  have hr2_0 := hindcastlaw11_awake_ok hr2_0
  refine W_y (s' := LS.mk 157 [(2, aB r2_0)] []) mixed [qn (.call [] (aB r2_0)), qn0] ⟨[2], [], [], [], [], [], []⟩ (aC hr2_0 aN) (by kernel_rfl) ?_
  refine W_ret ?_
  exact kr [] _ _ (by kernel_rfl) (Option.some.inj h)
noncomputable def hindcastlaw11_HeapNil (a0 : GHindcastlaw11Op) : Option Bool :=
  (if (a0.Text.length : Int) > 1000 then hindcastlaw11_HeapNil_j0 else (if (a0.Vals.length : Int) > 300 then hindcastlaw11_HeapNil_j0 else ((xheap_Heap_Str_n a0.Text).bind fun (r4_3 : (GApiValue × Bool)) => ((xheap_Heap_List_n a0.Of 0 a0.X).bind fun (r5_5 : (GApiValue × Bool)) => ((xheap_Heap_Rec_n a0.Of a0.Vals).bind fun (r6_5 : (GApiValue × Bool)) => ((xheap_Heap_Text_n a0.V).bind fun (r7_3 : ((List UInt8) × Bool)) => ((xheap_Heap_Size_n a0.V).bind fun (r8_3 : (Int × Int)) => ((xheap_Heap_Get_n a0.V a0.N).bind fun (r9_5 : (GApiValue × Int)) => (if (decide (r4_3.1.Kind = 0) && (decide (r4_3.1.N = 0) && (decide (r4_3.1.Re = 0) && decide (r4_3.1.Im = 0)))) = true then (if r4_3.2 = true then (some false) else (if (decide (r5_5.1.Kind = 0) && (decide (r5_5.1.N = 0) && (decide (r5_5.1.Re = 0) && decide (r5_5.1.Im = 0)))) = true then (if r5_5.2 = true then (some false) else (if (decide (r6_5.1.Kind = 0) && (decide (r6_5.1.N = 0) && (decide (r6_5.1.Re = 0) && decide (r6_5.1.Im = 0)))) = true then (if r6_5.2 = true then (some false) else (if r7_3.1 = ([] : List UInt8) then (if r7_3.2 = true then (some false) else (if r8_3.1 = 0 then (if r8_3.2 = 3 then (if (decide (r9_5.1.Kind = 0) && (decide (r9_5.1.N = 0) && (decide (r9_5.1.Re = 0) && decide (r9_5.1.Im = 0)))) = true then (if r9_5.2 = 3 then ((xheap_Heap_Put_n a0.V a0.N a0.X).bind fun (r11_58 : Int) => (if r11_58 = 3 then ((xheap_Heap_Cells_n).bind fun (r11_63 : Int) => (if r11_63 = 0 then ((xheap_Heap_All_n).bind fun (r11_68 : (List GApiObj)) => (if (r11_68.length : Int) = 0 then ((xheap_Heap_Copy_n).bind fun (r11_74 : Unit) => ((hindcastlaw11_awake).bind fun (r11_78 : Bool) => (some r11_78))) else (some false))) else (some false))) else (some false))) else (some false)) else (some false)) else (some false)) else (some false))) else (some false))) else (some false))) else (some false))) else (some false))))))))))
set_option maxRecDepth 100000 in
theorem hindcastlaw11_HeapNil_ok {a0 : GHindcastlaw11Op} {r_ : Bool} (h : hindcastlaw11_HeapNil a0 = some r_) : R_hindcastlaw11_HeapNil a0 r_ := by
  unfold hindcastlaw11_HeapNil at h
  refine fn_pureX (fn := Try.f7) (by kernel_rfl) (c := subC (bodyC Try.prog 7) []) (by kernel_rfl) (by kernel_rfl) (Nat.le_of_ble_eq_true (by kernel_rfl)) ?_
  generalize hQ' : retQ Try.prog Try.f7 (aB r_) = Q'
  have kr : ∀ (ns : List (Nat × Nat × Nat)) (s : LS) (x : Bool), retX Try.prog ns [.tmp 2] s = some (aB x) → x = r_ → Q' .ret s.st := by subst hQ'; intro ns s x hx hq; subst hq; exact ret_ok (fn := Try.f7) ns hx
  change W Try.prog _ (LS.mk 157 [(0, e_GHindcastlaw11Op a0)] []).st Q'
  refine W_seq ?_
  refine W_y (s' := LS.mk 157 [(1, .ptr 1 0)] [(1, some (.box 48 [aI .i64 a0.Kind, aI .i64 a0.Of, aI .i64 a0.N, aS a0.Text, aI .u8 a0.V.Kind, aI .i64 a0.V.N, aI .i64 a0.V.Re, aI .i64 a0.V.Im, aI .u8 a0.X.Kind, aI .i64 a0.X.N, aI .i64 a0.X.Re, aI .i64 a0.X.Im, .t (.sl 4 (a0.Vals.map c_GApiValue))]))]) mixed [qn0, qn0] ⟨[1], [], [1], [], [], [], []⟩ aN (by kernel_rfl) ?_
  refine W_seq ?_
  refine W_seq ?_
  refine (Bool.eq_false_or_eq_true (decide ((a0.Text.length : Int) > 1000))).elim (fun hb1 => ?_) (fun hb1 => ?_)
  · have hx2 := hb1
    have h := if_t h hx2
    refine W_y (s' := LS.mk 157 [(1, .ptr 1 0), (26, aB true)] [(1, some (.box 48 [aI .i64 a0.Kind, aI .i64 a0.Of, aI .i64 a0.N, aS a0.Text, aI .u8 a0.V.Kind, aI .i64 a0.V.N, aI .i64 a0.V.Re, aI .i64 a0.V.Im, aI .u8 a0.X.Kind, aI .i64 a0.X.N, aI .i64 a0.X.Re, aI .i64 a0.X.Im, .t (.sl 4 (a0.Vals.map c_GApiValue))]))]) mixed [qn0, qn0, qn0, qn0, qn0, qt0, qt0, qt0, qt0, qn (.dec true)] ⟨[1, 26], [], [1], [], [], [], []⟩ (aC hx2 (aC hx2 (aC hx2 (aC hx2 (aC hx2 aN))))) (by kernel_rfl) ?_
    refine W_cond true (by kernel_rfl) (fun _ => ?_) (fun hb => nomatch ((rfl : true = true).symm.trans hb))
    exact W_conv (s' := LS.mk 157 [] []) ⟨[], [], [], [], [], [], []⟩ (by kernel_rfl) (hindcastlaw11_HeapNil_j0_ok r_ _ kr h)
  · have hx2 := hb1
    have h := if_f h hx2
    refine W_y (s' := LS.mk 157 [(1, .ptr 1 0), (26, aB (decide ((a0.Vals.length : Int) > 300)))] [(1, some (.box 48 [aI .i64 a0.Kind, aI .i64 a0.Of, aI .i64 a0.N, aS a0.Text, aI .u8 a0.V.Kind, aI .i64 a0.V.N, aI .i64 a0.V.Re, aI .i64 a0.V.Im, aI .u8 a0.X.Kind, aI .i64 a0.X.N, aI .i64 a0.X.Re, aI .i64 a0.X.Im, .t (.sl 4 (a0.Vals.map c_GApiValue))]))]) mixed [qn0, qn0, qn0, qn0, qn0, qf0, qf0, qf (.len a0.Vals.length), qf0, qn (.dec false)] ⟨[1, 26], [], [1], [], [], [], []⟩ (aC hx2 (aC hx2 (aC hx2 (aC (len_obx c_GApiValue a0.Vals) (aC hx2 (aC hx2 aN)))))) (by kernel_rfl) ?_
    refine W_cond (decide ((a0.Vals.length : Int) > 300)) (by kernel_rfl) (fun hb3 => ?_) (fun hb3 => ?_)
    · have hx4 := hb3
      have h := if_t h hx4
      exact W_conv (s' := LS.mk 157 [] []) ⟨[], [], [], [], [], [], []⟩ (by kernel_rfl) (hindcastlaw11_HeapNil_j0_ok r_ _ kr h)
    · have hx4 := hb3
      have h := if_f h hx4
      refine W_skip ?_
      refine W_seq ?_
      refine W_y (s' := LS.mk 157 [(1, .ptr 1 0), (3, aPnil)] [(1, some (.box 48 [aI .i64 a0.Kind, aI .i64 a0.Of, aI .i64 a0.N, aS a0.Text, aI .u8 a0.V.Kind, aI .i64 a0.V.N, aI .i64 a0.V.Re, aI .i64 a0.V.Im, aI .u8 a0.X.Kind, aI .i64 a0.X.N, aI .i64 a0.X.Re, aI .i64 a0.X.Im, .t (.sl 4 (a0.Vals.map c_GApiValue))]))]) mixed [qn0] ⟨[1, 3], [], [1], [], [], [], []⟩ aN (by kernel_rfl) ?_
      refine W_seq ?_
      obtain ⟨r4_3, hr4_3, h⟩ := bind_ok h
      have hr4_3 := xheap_Heap_Str_n_ok hr4_3
      refine W_y (s' := LS.mk 157 [(1, .ptr 1 0), (3, aPnil), (4, .ptr 4 0), (5, aB r4_3.2)] [(1, some (.box 48 [aI .i64 a0.Kind, aI .i64 a0.Of, aI .i64 a0.N, aS a0.Text, aI .u8 a0.V.Kind, aI .i64 a0.V.N, aI .i64 a0.V.Re, aI .i64 a0.V.Im, aI .u8 a0.X.Kind, aI .i64 a0.X.N, aI .i64 a0.X.Re, aI .i64 a0.X.Im, .t (.sl 4 (a0.Vals.map c_GApiValue))])), (4, some (.box 46 [aI .u8 r4_3.1.Kind, aI .i64 r4_3.1.N, aI .i64 r4_3.1.Re, aI .i64 r4_3.1.Im]))]) mixed [qn0, qn0, qn0, qn (.call [] (.tup [e_GApiValue r4_3.1, aB r4_3.2])), qn0, qn0, qn0, qn0, qn0, qn0] ⟨[1, 3, 4, 5], [], [1, 4], [], [], [], []⟩ (aC hr4_3 aN) (by kernel_rfl) ?_
      refine W_seq ?_
      obtain ⟨r5_5, hr5_5, h⟩ := bind_ok h
      have hr5_5 := xheap_Heap_List_n_ok hr5_5
      refine W_y (s' := LS.mk 157 [(1, .ptr 1 0), (3, aPnil), (4, .ptr 4 0), (5, aB r4_3.2), (6, .ptr 6 0), (7, aB r5_5.2)] [(1, some (.box 48 [aI .i64 a0.Kind, aI .i64 a0.Of, aI .i64 a0.N, aS a0.Text, aI .u8 a0.V.Kind, aI .i64 a0.V.N, aI .i64 a0.V.Re, aI .i64 a0.V.Im, aI .u8 a0.X.Kind, aI .i64 a0.X.N, aI .i64 a0.X.Re, aI .i64 a0.X.Im, .t (.sl 4 (a0.Vals.map c_GApiValue))])), (4, some (.box 46 [aI .u8 r4_3.1.Kind, aI .i64 r4_3.1.N, aI .i64 r4_3.1.Re, aI .i64 r4_3.1.Im])), (6, some (.box 46 [aI .u8 r5_5.1.Kind, aI .i64 r5_5.1.N, aI .i64 r5_5.1.Re, aI .i64 r5_5.1.Im]))]) mixed [qn0, qn0, qn0, qn0, qn0, qn (.call [] (.tup [e_GApiValue r5_5.1, aB r5_5.2])), qn0, qn0, qn0, qn0, qn0, qn0] ⟨[1, 3, 4, 5, 6, 7], [], [1, 4, 6], [], [], [], []⟩ (aC hr5_5 aN) (by kernel_rfl) ?_
      refine W_seq ?_
      obtain ⟨r6_5, hr6_5, h⟩ := bind_ok h
      have hr6_5 := xheap_Heap_Rec_n_ok hr6_5
      refine W_y (s' := LS.mk 157 [(1, .ptr 1 0), (3, aPnil), (4, .ptr 4 0), (5, aB r4_3.2), (6, .ptr 6 0), (7, aB r5_5.2), (8, .ptr 8 0), (9, aB r6_5.2)] [(1, some (.box 48 [aI .i64 a0.Kind, aI .i64 a0.Of, aI .i64 a0.N, aS a0.Text, aI .u8 a0.V.Kind, aI .i64 a0.V.N, aI .i64 a0.V.Re, aI .i64 a0.V.Im, aI .u8 a0.X.Kind, aI .i64 a0.X.N, aI .i64 a0.X.Re, aI .i64 a0.X.Im, .t (.sl 4 (a0.Vals.map c_GApiValue))])), (4, some (.box 46 [aI .u8 r4_3.1.Kind, aI .i64 r4_3.1.N, aI .i64 r4_3.1.Re, aI .i64 r4_3.1.Im])), (6, some (.box 46 [aI .u8 r5_5.1.Kind, aI .i64 r5_5.1.N, aI .i64 r5_5.1.Re, aI .i64 r5_5.1.Im])), (8, some (.box 46 [aI .u8 r6_5.1.Kind, aI .i64 r6_5.1.N, aI .i64 r6_5.1.Re, aI .i64 r6_5.1.Im]))]) mixed [qn0, qn0, qn0, qn0, qn0, qn (.call [] (.tup [e_GApiValue r6_5.1, aB r6_5.2])), qn0, qn0, qn0, qn0, qn0, qn0] ⟨[1, 3, 4, 5, 6, 7, 8, 9], [], [1, 4, 6, 8], [], [], [], []⟩ (aC hr6_5 aN) (by kernel_rfl) ?_
      refine W_seq ?_
      obtain ⟨r7_3, hr7_3, h⟩ := bind_ok h
      have hr7_3 := xheap_Heap_Text_n_ok hr7_3
      refine W_y (s' := LS.mk 157 [(1, .ptr 1 0), (3, aPnil), (4, .ptr 4 0), (5, aB r4_3.2), (6, .ptr 6 0), (7, aB r5_5.2), (8, .ptr 8 0), (9, aB r6_5.2), (10, aS r7_3.1), (11, aB r7_3.2)] [(1, some (.box 48 [aI .i64 a0.Kind, aI .i64 a0.Of, aI .i64 a0.N, aS a0.Text, aI .u8 a0.V.Kind, aI .i64 a0.V.N, aI .i64 a0.V.Re, aI .i64 a0.V.Im, aI .u8 a0.X.Kind, aI .i64 a0.X.N, aI .i64 a0.X.Re, aI .i64 a0.X.Im, .t (.sl 4 (a0.Vals.map c_GApiValue))])), (4, some (.box 46 [aI .u8 r4_3.1.Kind, aI .i64 r4_3.1.N, aI .i64 r4_3.1.Re, aI .i64 r4_3.1.Im])), (6, some (.box 46 [aI .u8 r5_5.1.Kind, aI .i64 r5_5.1.N, aI .i64 r5_5.1.Re, aI .i64 r5_5.1.Im])), (8, some (.box 46 [aI .u8 r6_5.1.Kind, aI .i64 r6_5.1.N, aI .i64 r6_5.1.Re, aI .i64 r6_5.1.Im]))]) mixed [qn0, qn0, qn0, qn (.call [] (.tup [aS r7_3.1, aB r7_3.2])), qn0, qn0, qn0, qn0, qn0] ⟨[1, 3, 4, 5, 6, 7, 8, 9, 10, 11], [], [1, 4, 6, 8], [], [], [], []⟩ (aC hr7_3 aN) (by kernel_rfl) ?_
      refine W_seq ?_
      obtain ⟨r8_3, hr8_3, h⟩ := bind_ok h
      have hr8_3 := xheap_Heap_Size_n_ok hr8_3
      refine W_y (s' := LS.mk 157 [(1, .ptr 1 0), (3, aPnil), (4, .ptr 4 0), (5, aB r4_3.2), (6, .ptr 6 0), (7, aB r5_5.2), (8, .ptr 8 0), (9, aB r6_5.2), (10, aS r7_3.1), (11, aB r7_3.2), (12, aI .i64 r8_3.1), (13, aI .u8 r8_3.2)] [(1, some (.box 48 [aI .i64 a0.Kind, aI .i64 a0.Of, aI .i64 a0.N, aS a0.Text, aI .u8 a0.V.Kind, aI .i64 a0.V.N, aI .i64 a0.V.Re, aI .i64 a0.V.Im, aI .u8 a0.X.Kind, aI .i64 a0.X.N, aI .i64 a0.X.Re, aI .i64 a0.X.Im, .t (.sl 4 (a0.Vals.map c_GApiValue))])), (4, some (.box 46 [aI .u8 r4_3.1.Kind, aI .i64 r4_3.1.N, aI .i64 r4_3.1.Re, aI .i64 r4_3.1.Im])), (6, some (.box 46 [aI .u8 r5_5.1.Kind, aI .i64 r5_5.1.N, aI .i64 r5_5.1.Re, aI .i64 r5_5.1.Im])), (8, some (.box 46 [aI .u8 r6_5.1.Kind, aI .i64 r6_5.1.N, aI .i64 r6_5.1.Re, aI .i64 r6_5.1.Im]))]) mixed [qn0, qn0, qn0, qn (.call [] (.tup [aI .i64 r8_3.1, aI .u8 r8_3.2])), qn0, qn0, qn0, qn0, qn0] ⟨[1, 3, 4, 5, 6, 7, 8, 9, 10, 11, 12, 13], [], [1, 4, 6, 8], [], [], [], []⟩ (aC hr8_3 aN) (by kernel_rfl) ?_
      refine W_seq ?_
      obtain ⟨r9_5, hr9_5, h⟩ := bind_ok h
      have hr9_5 := xheap_Heap_Get_n_ok hr9_5
      refine W_y (s' := LS.mk 157 [(1, .ptr 1 0), (3, aPnil), (4, .ptr 4 0), (5, aB r4_3.2), (6, .ptr 6 0), (7, aB r5_5.2), (8, .ptr 8 0), (9, aB r6_5.2), (10, aS r7_3.1), (11, aB r7_3.2), (12, aI .i64 r8_3.1), (13, aI .u8 r8_3.2), (14, .ptr 14 0), (15, aI .u8 r9_5.2)] [(1, some (.box 48 [aI .i64 a0.Kind, aI .i64 a0.Of, aI .i64 a0.N, aS a0.Text, aI .u8 a0.V.Kind, aI .i64 a0.V.N, aI .i64 a0.V.Re, aI .i64 a0.V.Im, aI .u8 a0.X.Kind, aI .i64 a0.X.N, aI .i64 a0.X.Re, aI .i64 a0.X.Im, .t (.sl 4 (a0.Vals.map c_GApiValue))])), (4, some (.box 46 [aI .u8 r4_3.1.Kind, aI .i64 r4_3.1.N, aI .i64 r4_3.1.Re, aI .i64 r4_3.1.Im])), (6, some (.box 46 [aI .u8 r5_5.1.Kind, aI .i64 r5_5.1.N, aI .i64 r5_5.1.Re, aI .i64 r5_5.1.Im])), (8, some (.box 46 [aI .u8 r6_5.1.Kind, aI .i64 r6_5.1.N, aI .i64 r6_5.1.Re, aI .i64 r6_5.1.Im])), (14, some (.box 46 [aI .u8 r9_5.1.Kind, aI .i64 r9_5.1.N, aI .i64 r9_5.1.Re, aI .i64 r9_5.1.Im]))]) mixed [qn0, qn0, qn0, qn0, qn0, qn (.call [] (.tup [e_GApiValue r9_5.1, aI .u8 r9_5.2])), qn0, qn0, qn0, qn0, qn0, qn0] ⟨[1, 3, 4, 5, 6, 7, 8, 9, 10, 11, 12, 13, 14, 15], [], [1, 4, 6, 8, 14], [], [], [], []⟩ (aC hr9_5 aN) (by kernel_rfl) ?_
      refine W_seq ?_
      refine W_y (s' := LS.mk 157 [(1, .ptr 1 0), (3, aPnil), (4, .ptr 4 0), (5, aB r4_3.2), (6, .ptr 6 0), (7, aB r5_5.2), (8, .ptr 8 0), (9, aB r6_5.2), (10, aS r7_3.1), (11, aB r7_3.2), (12, aI .i64 r8_3.1), (13, aI .u8 r8_3.2), (14, .ptr 14 0), (15, aI .u8 r9_5.2), (16, .ptr 16 0)] [(1, some (.box 48 [aI .i64 a0.Kind, aI .i64 a0.Of, aI .i64 a0.N, aS a0.Text, aI .u8 a0.V.Kind, aI .i64 a0.V.N, aI .i64 a0.V.Re, aI .i64 a0.V.Im, aI .u8 a0.X.Kind, aI .i64 a0.X.N, aI .i64 a0.X.Re, aI .i64 a0.X.Im, .t (.sl 4 (a0.Vals.map c_GApiValue))])), (4, some (.box 46 [aI .u8 r4_3.1.Kind, aI .i64 r4_3.1.N, aI .i64 r4_3.1.Re, aI .i64 r4_3.1.Im])), (6, some (.box 46 [aI .u8 r5_5.1.Kind, aI .i64 r5_5.1.N, aI .i64 r5_5.1.Re, aI .i64 r5_5.1.Im])), (8, some (.box 46 [aI .u8 r6_5.1.Kind, aI .i64 r6_5.1.N, aI .i64 r6_5.1.Re, aI .i64 r6_5.1.Im])), (14, some (.box 46 [aI .u8 r9_5.1.Kind, aI .i64 r9_5.1.N, aI .i64 r9_5.1.Re, aI .i64 r9_5.1.Im])), (16, some (.box 46 [aI .u8 0, aI .i64 0, aI .i64 0, aI .i64 0]))]) mixed [qn0, qn0, qn0] ⟨[1, 3, 4, 5, 6, 7, 8, 9, 10, 11, 12, 13, 14, 15, 16], [], [1, 4, 6, 8, 14, 16], [], [], [], []⟩ aN (by kernel_rfl) ?_
      refine W_seq ?_
      refine (Bool.eq_false_or_eq_true (decide (r4_3.1.Kind = 0) && (decide (r4_3.1.N = 0) && (decide (r4_3.1.Re = 0) && decide (r4_3.1.Im = 0))))).elim (fun hb5 => ?_) (fun hb5 => ?_)
      · have hx6 := hb5
        have h := ib_t h hx6
        refine (Bool.eq_false_or_eq_true (!r4_3.2)).elim (fun hb7 => ?_) (fun hb7 => ?_)
        · have hx8 : r4_3.2 = false := (bnot_t hb7)
          have h := ib_f h hx8
          refine (Bool.eq_false_or_eq_true (decide (r5_5.1.Kind = 0) && (decide (r5_5.1.N = 0) && (decide (r5_5.1.Re = 0) && decide (r5_5.1.Im = 0))))).elim (fun hb9 => ?_) (fun hb9 => ?_)
          · have hx10 := hb9
            have h := ib_t h hx10
            refine (Bool.eq_false_or_eq_true (!r5_5.2)).elim (fun hb11 => ?_) (fun hb11 => ?_)
            · have hx12 : r5_5.2 = false := (bnot_t hb11)
              have h := ib_f h hx12
              refine (Bool.eq_false_or_eq_true (decide (r6_5.1.Kind = 0) && (decide (r6_5.1.N = 0) && (decide (r6_5.1.Re = 0) && decide (r6_5.1.Im = 0))))).elim (fun hb13 => ?_) (fun hb13 => ?_)
              · have hx14 := hb13
                have h := ib_t h hx14
                refine (Bool.eq_false_or_eq_true (!r6_5.2)).elim (fun hb15 => ?_) (fun hb15 => ?_)
                · have hx16 : r6_5.2 = false := (bnot_t hb15)
                  have h := ib_f h hx16
                  refine (Bool.eq_false_or_eq_true (decide (r7_3.1 = ([] : List UInt8)))).elim (fun hb17 => ?_) (fun hb17 => ?_)
                  · have hx18 := hb17
                    have h := if_t h hx18
                    refine (Bool.eq_false_or_eq_true (!r7_3.2)).elim (fun hb19 => ?_) (fun hb19 => ?_)
                    · have hx20 : r7_3.2 = false := (bnot_t hb19)
                      have h := ib_f h hx20
                      refine (Bool.eq_false_or_eq_true (decide (r8_3.1 = 0))).elim (fun hb21 => ?_) (fun hb21 => ?_)
                      · have hx22 := hb21
                        have h := if_t h hx22
                        refine (Bool.eq_false_or_eq_true (decide (r8_3.2 = 3))).elim (fun hb23 => ?_) (fun hb23 => ?_)
                        · have hx24 := hb23
                          have h := if_t h hx24
                          refine (Bool.eq_false_or_eq_true (decide (r9_5.1.Kind = 0) && (decide (r9_5.1.N = 0) && (decide (r9_5.1.Re = 0) && decide (r9_5.1.Im = 0))))).elim (fun hb25 => ?_) (fun hb25 => ?_)
                          · have hx26 := hb25
                            have h := ib_t h hx26
                            refine (Bool.eq_false_or_eq_true (decide (r9_5.2 = 3))).elim (fun hb27 => ?_) (fun hb27 => ?_)
                            · have hx28 := hb27
                              have h := if_t h hx28
                              obtain ⟨r11_58, hr11_58, h⟩ := bind_ok h
                              have hr11_58 := xheap_Heap_Put_n_ok hr11_58
                              refine (Bool.eq_false_or_eq_true (decide (r11_58 = 3))).elim (fun hb29 => ?_) (fun hb29 => ?_)
                              · have hx30 := hb29
                                have h := if_t h hx30
                                obtain ⟨r11_63, hr11_63, h⟩ := bind_ok h
                                have hr11_63 := xheap_Heap_Cells_n_ok hr11_63
                                refine (Bool.eq_false_or_eq_true (decide (r11_63 = 0))).elim (fun hb31 => ?_) (fun hb31 => ?_)
                                · have hx32 := hb31
                                  have h := if_t h hx32
                                  obtain ⟨r11_68, hr11_68, h⟩ := bind_ok h
                                  have hr11_68 := xheap_Heap_All_n_ok hr11_68
                                  refine (Bool.eq_false_or_eq_true (decide ((r11_68.length : Int) = 0))).elim (fun hb33 => ?_) (fun hb33 => ?_)
                                  · have hx34 := hb33
                                    have h := if_t h hx34
                                    obtain ⟨r11_74, hr11_74, h⟩ := bind_ok h
                                    have hr11_74 := xheap_Heap_Copy_n_ok hr11_74
                                    obtain ⟨r11_78, hr11_78, h⟩ := bind_ok h
                                    have hr11_78 := hindcastlaw11_awake_ok hr11_78
                                    refine W_y (s' := LS.mk 157 [(2, aB r11_78)] []) mixed [qn0, qn0, qn (.quiet (aB (decide (r4_3.1.Kind = 0) && (decide (r4_3.1.N = 0) && (decide (r4_3.1.Re = 0) && decide (r4_3.1.Im = 0)))))), qn0, qt0, qt0, qn (.dec true), qn0, qt0, qt0, qt (.quiet (aB (decide (r5_5.1.Kind = 0) && (decide (r5_5.1.N = 0) && (decide (r5_5.1.Re = 0) && decide (r5_5.1.Im = 0)))))), qn (.dec true), qn0, qt0, qt0, qn (.dec true), qn0, qt0, qt0, qt (.quiet (aB (decide (r6_5.1.Kind = 0) && (decide (r6_5.1.N = 0) && (decide (r6_5.1.Re = 0) && decide (r6_5.1.Im = 0)))))), qn (.dec true), qn0, qt0, qt0, qn (.dec true), qn0, qt0, qt (.val (.bool (decide (r7_3.1 = ([] : List UInt8))))), qn (.dec true), qn0, qt0, qt0, qn (.dec true), qn0, qt0, qt0, qn (.dec true), qn0, qt0, qt0, qn (.dec true), qn0, qt0, qt0, qt (.quiet (aB (decide (r9_5.1.Kind = 0) && (decide (r9_5.1.N = 0) && (decide (r9_5.1.Re = 0) && decide (r9_5.1.Im = 0)))))), qn (.dec true), qn0, qt0, qt0, qn (.dec true), qn0, qt0, qt0, qt0, qt0, qt0, qt0, qt0, qt (.call [] (aI .u8 r11_58)), qt0, qn (.dec true), qn0, qt0, qt (.call [] (aI .i64 r11_63)), qt0, qn (.dec true), qn0, qt0, qt (.call [] (.t (.sl 4 (r11_68.map c_GApiObj)))), qt (.len r11_68.length), qt0, qn (.dec true), qn0, qt0, qt (.call [] (aPnil)), qt0, qn (.dec true), qn0, qn (.call [] (aB r11_78)), qn0, qn0] ⟨[2], [], [], [], [], [], []⟩ (aC (show Quiet Try.prog (opAt (subC (bodyC Try.prog 7) [1, 1, 1, 1, 1, 1, 1, 1, 1, 1, 0]) 2) [e_GApiValue r4_3.1, .agg [aI .u8 0, aI .i64 0, aI .i64 0, aI .i64 0]] (aB (decide (r4_3.1.Kind = 0) && (decide (r4_3.1.N = 0) && (decide (r4_3.1.Re = 0) && decide (r4_3.1.Im = 0))))) from eqA_ob (P := Try.prog) (ne := false) (xs := [.int .u8 r4_3.1.Kind, .int .i64 r4_3.1.N, .int .i64 r4_3.1.Re, .int .i64 r4_3.1.Im]) (ys := [.int .u8 0, .int .i64 0, .int .i64 0, .int .i64 0]) (hh := none) ⟨_, by rfl⟩ (by kernel_rfl) (by kernel_rfl)) (aC hx6 (aC hx6 (aC hx6 (aC (not_f hx8) (aC (not_f hx8) (aC (not_f hx8) (aC (show Quiet Try.prog (opAt (subC (bodyC Try.prog 7) [1, 1, 1, 1, 1, 1, 1, 1, 1, 1, 0]) 10) [e_GApiValue r5_5.1, .agg [aI .u8 0, aI .i64 0, aI .i64 0, aI .i64 0]] (aB (decide (r5_5.1.Kind = 0) && (decide (r5_5.1.N = 0) && (decide (r5_5.1.Re = 0) && decide (r5_5.1.Im = 0))))) from eqA_ob (P := Try.prog) (ne := false) (xs := [.int .u8 r5_5.1.Kind, .int .i64 r5_5.1.N, .int .i64 r5_5.1.Re, .int .i64 r5_5.1.Im]) (ys := [.int .u8 0, .int .i64 0, .int .i64 0, .int .i64 0]) (hh := none) ⟨_, by rfl⟩ (by kernel_rfl) (by kernel_rfl)) (aC (not_f hx8) (aC hx10 (aC hx10 (aC hx10 (aC (not_f hx12) (aC (not_f hx12) (aC (not_f hx12) (aC (show Quiet Try.prog (opAt (subC (bodyC Try.prog 7) [1, 1, 1, 1, 1, 1, 1, 1, 1, 1, 0]) 19) [e_GApiValue r6_5.1, .agg [aI .u8 0, aI .i64 0, aI .i64 0, aI .i64 0]] (aB (decide (r6_5.1.Kind = 0) && (decide (r6_5.1.N = 0) && (decide (r6_5.1.Re = 0) && decide (r6_5.1.Im = 0))))) from eqA_ob (P := Try.prog) (ne := false) (xs := [.int .u8 r6_5.1.Kind, .int .i64 r6_5.1.N, .int .i64 r6_5.1.Re, .int .i64 r6_5.1.Im]) (ys := [.int .u8 0, .int .i64 0, .int .i64 0, .int .i64 0]) (hh := none) ⟨_, by rfl⟩ (by kernel_rfl) (by kernel_rfl)) (aC (not_f hx12) (aC hx14 (aC hx14 (aC hx14 (aC (not_f hx16) (aC (not_f hx16) (aC (str_eq_ob (P := Try.prog) 9 r7_3.1 ([] : List UInt8)) (aC (not_f hx16) (aC hx18 (aC hx18 (aC hx18 (aC (not_f hx20) (aC (not_f hx20) (aC (not_f hx20) (aC hx22 (aC hx22 (aC hx22 (aC hx24 (aC hx24 (aC hx24 (aC (show Quiet Try.prog (opAt (subC (bodyC Try.prog 7) [1, 1, 1, 1, 1, 1, 1, 1, 1, 1, 0]) 44) [e_GApiValue r9_5.1, .agg [aI .u8 0, aI .i64 0, aI .i64 0, aI .i64 0]] (aB (decide (r9_5.1.Kind = 0) && (decide (r9_5.1.N = 0) && (decide (r9_5.1.Re = 0) && decide (r9_5.1.Im = 0))))) from eqA_ob (P := Try.prog) (ne := false) (xs := [.int .u8 r9_5.1.Kind, .int .i64 r9_5.1.N, .int .i64 r9_5.1.Re, .int .i64 r9_5.1.Im]) (ys := [.int .u8 0, .int .i64 0, .int .i64 0, .int .i64 0]) (hh := none) ⟨_, by rfl⟩ (by kernel_rfl) (by kernel_rfl)) (aC hx24 (aC hx26 (aC hx26 (aC hx26 (aC hx28 (aC hx28 (aC hx28 (aC hx28 (aC hx28 (aC hx28 (aC hx28 (aC hx28 (aC hr11_58 (aC hx28 (aC hx28 (aC hx30 (aC hx30 (aC hr11_63 (aC hx30 (aC hx30 (aC hx32 (aC hx32 (aC hr11_68 (aC hx32 (aC (len_obx c_GApiObj r11_68) (aC hx32 (aC hx32 (aC hx34 (aC hx34 (aC hr11_74 (aC hx34 (aC hx34 (aC hr11_78 aN)))))))))))))))))))))))))))))))))))))))))))))))))))))))))))))))))))))) (by kernel_rfl) ?_
                                    refine W_ret ?_
                                    exact kr [] _ _ (by kernel_rfl) (Option.some.inj h)
                                  · have hx34 := hb33
                                    have h := if_f h hx34
                                    refine W_y (s' := LS.mk 157 [(2, aB false)] []) mixed [qn0, qn0, qn (.quiet (aB (decide (r4_3.1.Kind = 0) && (decide (r4_3.1.N = 0) && (decide (r4_3.1.Re = 0) && decide (r4_3.1.Im = 0)))))), qn0, qt0, qt0, qn (.dec true), qn0, qt0, qt0, qt (.quiet (aB (decide (r5_5.1.Kind = 0) && (decide (r5_5.1.N = 0) && (decide (r5_5.1.Re = 0) && decide (r5_5.1.Im = 0)))))), qn (.dec true), qn0, qt0, qt0, qn (.dec true), qn0, qt0, qt0, qt (.quiet (aB (decide (r6_5.1.Kind = 0) && (decide (r6_5.1.N = 0) && (decide (r6_5.1.Re = 0) && decide (r6_5.1.Im = 0)))))), qn (.dec true), qn0, qt0, qt0, qn (.dec true), qn0, qt0, qt (.val (.bool (decide (r7_3.1 = ([] : List UInt8))))), qn (.dec true), qn0, qt0, qt0, qn (.dec true), qn0, qt0, qt0, qn (.dec true), qn0, qt0, qt0, qn (.dec true), qn0, qt0, qt0, qt (.quiet (aB (decide (r9_5.1.Kind = 0) && (decide (r9_5.1.N = 0) && (decide (r9_5.1.Re = 0) && decide (r9_5.1.Im = 0)))))), qn (.dec true), qn0, qt0, qt0, qn (.dec true), qn0, qt0, qt0, qt0, qt0, qt0, qt0, qt0, qt (.call [] (aI .u8 r11_58)), qt0, qn (.dec true), qn0, qt0, qt (.call [] (aI .i64 r11_63)), qt0, qn (.dec true), qn0, qt0, qt (.call [] (.t (.sl 4 (r11_68.map c_GApiObj)))), qt (.len r11_68.length), qt0, qn (.dec true), qn0, qf0, qf0, qf0, qn (.dec false), qn0, qn0, qn0, qn0] ⟨[2], [], [], [], [], [], []⟩ (aC (show Quiet Try.prog (opAt (subC (bodyC Try.prog 7) [1, 1, 1, 1, 1, 1, 1, 1, 1, 1, 0]) 2) [e_GApiValue r4_3.1, .agg [aI .u8 0, aI .i64 0, aI .i64 0, aI .i64 0]] (aB (decide (r4_3.1.Kind = 0) && (decide (r4_3.1.N = 0) && (decide (r4_3.1.Re = 0) && decide (r4_3.1.Im = 0))))) from eqA_ob (P := Try.prog) (ne := false) (xs := [.int .u8 r4_3.1.Kind, .int .i64 r4_3.1.N, .int .i64 r4_3.1.Re, .int .i64 r4_3.1.Im]) (ys := [.int .u8 0, .int .i64 0, .int .i64 0, .int .i64 0]) (hh := none) ⟨_, by rfl⟩ (by kernel_rfl) (by kernel_rfl)) (aC hx6 (aC hx6 (aC hx6 (aC (not_f hx8) (aC (not_f hx8) (aC (not_f hx8) (aC (show Quiet Try.prog (opAt (subC (bodyC Try.prog 7) [1, 1, 1, 1, 1, 1, 1, 1, 1, 1, 0]) 10) [e_GApiValue r5_5.1, .agg [aI .u8 0, aI .i64 0, aI .i64 0, aI .i64 0]] (aB (decide (r5_5.1.Kind = 0) && (decide (r5_5.1.N = 0) && (decide (r5_5.1.Re = 0) && decide (r5_5.1.Im = 0))))) from eqA_ob (P := Try.prog) (ne := false) (xs := [.int .u8 r5_5.1.Kind, .int .i64 r5_5.1.N, .int .i64 r5_5.1.Re, .int .i64 r5_5.1.Im]) (ys := [.int .u8 0, .int .i64 0, .int .i64 0, .int .i64 0]) (hh := none) ⟨_, by rfl⟩ (by kernel_rfl) (by kernel_rfl)) (aC (not_f hx8) (aC hx10 (aC hx10 (aC hx10 (aC (not_f hx12) (aC (not_f hx12) (aC (not_f hx12) (aC (show Quiet Try.prog (opAt (subC (bodyC Try.prog 7) [1, 1, 1, 1, 1, 1, 1, 1, 1, 1, 0]) 19) [e_GApiValue r6_5.1, .agg [aI .u8 0, aI .i64 0, aI .i64 0, aI .i64 0]] (aB (decide (r6_5.1.Kind = 0) && (decide (r6_5.1.N = 0) && (decide (r6_5.1.Re = 0) && decide (r6_5.1.Im = 0))))) from eqA_ob (P := Try.prog) (ne := false) (xs := [.int .u8 r6_5.1.Kind, .int .i64 r6_5.1.N, .int .i64 r6_5.1.Re, .int .i64 r6_5.1.Im]) (ys := [.int .u8 0, .int .i64 0, .int .i64 0, .int .i64 0]) (hh := none) ⟨_, by rfl⟩ (by kernel_rfl) (by kernel_rfl)) (aC (not_f hx12) (aC hx14 (aC hx14 (aC hx14 (aC (not_f hx16) (aC (not_f hx16) (aC (str_eq_ob (P := Try.prog) 9 r7_3.1 ([] : List UInt8)) (aC (not_f hx16) (aC hx18 (aC hx18 (aC hx18 (aC (not_f hx20) (aC (not_f hx20) (aC (not_f hx20) (aC hx22 (aC hx22 (aC hx22 (aC hx24 (aC hx24 (aC hx24 (aC (show Quiet Try.prog (opAt (subC (bodyC Try.prog 7) [1, 1, 1, 1, 1, 1, 1, 1, 1, 1, 0]) 44) [e_GApiValue r9_5.1, .agg [aI .u8 0, aI .i64 0, aI .i64 0, aI .i64 0]] (aB (decide (r9_5.1.Kind = 0) && (decide (r9_5.1.N = 0) && (decide (r9_5.1.Re = 0) && decide (r9_5.1.Im = 0))))) from eqA_ob (P := Try.prog) (ne := false) (xs := [.int .u8 r9_5.1.Kind, .int .i64 r9_5.1.N, .int .i64 r9_5.1.Re, .int .i64 r9_5.1.Im]) (ys := [.int .u8 0, .int .i64 0, .int .i64 0, .int .i64 0]) (hh := none) ⟨_, by rfl⟩ (by kernel_rfl) (by kernel_rfl)) (aC hx24 (aC hx26 (aC hx26 (aC hx26 (aC hx28 (aC hx28 (aC hx28 (aC hx28 (aC hx28 (aC hx28 (aC hx28 (aC hx28 (aC hr11_58 (aC hx28 (aC hx28 (aC hx30 (aC hx30 (aC hr11_63 (aC hx30 (aC hx30 (aC hx32 (aC hx32 (aC hr11_68 (aC hx32 (aC (len_obx c_GApiObj r11_68) (aC hx32 (aC hx32 (aC hx34 (aC hx34 (aC hx34 (aC hx34 aN)))))))))))))))))))))))))))))))))))))))))))))))))))))))))))))))))))) (by kernel_rfl) ?_
                                    refine W_ret ?_
                                    exact kr [] _ _ (by kernel_rfl) (Option.some.inj h)
                                · have hx32 := hb31
                                  have h := if_f h hx32
                                  refine W_y (s' := LS.mk 157 [(2, aB false)] []) mixed [qn0, qn0, qn (.quiet (aB (decide (r4_3.1.Kind = 0) && (decide (r4_3.1.N = 0) && (decide (r4_3.1.Re = 0) && decide (r4_3.1.Im = 0)))))), qn0, qt0, qt0, qn (.dec true), qn0, qt0, qt0, qt (.quiet (aB (decide (r5_5.1.Kind = 0) && (decide (r5_5.1.N = 0) && (decide (r5_5.1.Re = 0) && decide (r5_5.1.Im = 0)))))), qn (.dec true), qn0, qt0, qt0, qn (.dec true), qn0, qt0, qt0, qt (.quiet (aB (decide (r6_5.1.Kind = 0) && (decide (r6_5.1.N = 0) && (decide (r6_5.1.Re = 0) && decide (r6_5.1.Im = 0)))))), qn (.dec true), qn0, qt0, qt0, qn (.dec true), qn0, qt0, qt (.val (.bool (decide (r7_3.1 = ([] : List UInt8))))), qn (.dec true), qn0, qt0, qt0, qn (.dec true), qn0, qt0, qt0, qn (.dec true), qn0, qt0, qt0, qn (.dec true), qn0, qt0, qt0, qt (.quiet (aB (decide (r9_5.1.Kind = 0) && (decide (r9_5.1.N = 0) && (decide (r9_5.1.Re = 0) && decide (r9_5.1.Im = 0)))))), qn (.dec true), qn0, qt0, qt0, qn (.dec true), qn0, qt0, qt0, qt0, qt0, qt0, qt0, qt0, qt (.call [] (aI .u8 r11_58)), qt0, qn (.dec true), qn0, qt0, qt (.call [] (aI .i64 r11_63)), qt0, qn (.dec true), qn0, qf0, qf0, qf0, qf0, qn (.dec false), qn0, qn0, qn0, qn0, qn0, qn0, qn0, qn0, qn0] ⟨[2], [], [], [], [], [], []⟩ (aC (show Quiet Try.prog (opAt (subC (bodyC Try.prog 7) [1, 1, 1, 1, 1, 1, 1, 1, 1, 1, 0]) 2) [e_GApiValue r4_3.1, .agg [aI .u8 0, aI .i64 0, aI .i64 0, aI .i64 0]] (aB (decide (r4_3.1.Kind = 0) && (decide (r4_3.1.N = 0) && (decide (r4_3.1.Re = 0) && decide (r4_3.1.Im = 0))))) from eqA_ob (P := Try.prog) (ne := false) (xs := [.int .u8 r4_3.1.Kind, .int .i64 r4_3.1.N, .int .i64 r4_3.1.Re, .int .i64 r4_3.1.Im]) (ys := [.int .u8 0, .int .i64 0, .int .i64 0, .int .i64 0]) (hh := none) ⟨_, by rfl⟩ (by kernel_rfl) (by kernel_rfl)) (aC hx6 (aC hx6 (aC hx6 (aC (not_f hx8) (aC (not_f hx8) (aC (not_f hx8) (aC (show Quiet Try.prog (opAt (subC (bodyC Try.prog 7) [1, 1, 1, 1, 1, 1, 1, 1, 1, 1, 0]) 10) [e_GApiValue r5_5.1, .agg [aI .u8 0, aI .i64 0, aI .i64 0, aI .i64 0]] (aB (decide (r5_5.1.Kind = 0) && (decide (r5_5.1.N = 0) && (decide (r5_5.1.Re = 0) && decide (r5_5.1.Im = 0))))) from eqA_ob (P := Try.prog) (ne := false) (xs := [.int .u8 r5_5.1.Kind, .int .i64 r5_5.1.N, .int .i64 r5_5.1.Re, .int .i64 r5_5.1.Im]) (ys := [.int .u8 0, .int .i64 0, .int .i64 0, .int .i64 0]) (hh := none) ⟨_, by rfl⟩ (by kernel_rfl) (by kernel_rfl)) (aC (not_f hx8) (aC hx10 (aC hx10 (aC hx10 (aC (not_f hx12) (aC (not_f hx12) (aC (not_f hx12) (aC (show Quiet Try.prog (opAt (subC (bodyC Try.prog 7) [1, 1, 1, 1, 1, 1, 1, 1, 1, 1, 0]) 19) [e_GApiValue r6_5.1, .agg [aI .u8 0, aI .i64 0, aI .i64 0, aI .i64 0]] (aB (decide (r6_5.1.Kind = 0) && (decide (r6_5.1.N = 0) && (decide (r6_5.1.Re = 0) && decide (r6_5.1.Im = 0))))) from eqA_ob (P := Try.prog) (ne := false) (xs := [.int .u8 r6_5.1.Kind, .int .i64 r6_5.1.N, .int .i64 r6_5.1.Re, .int .i64 r6_5.1.Im]) (ys := [.int .u8 0, .int .i64 0, .int .i64 0, .int .i64 0]) (hh := none) ⟨_, by rfl⟩ (by kernel_rfl) (by kernel_rfl)) (aC (not_f hx12) (aC hx14 (aC hx14 (aC hx14 (aC (not_f hx16) (aC (not_f hx16) (aC (str_eq_ob (P := Try.prog) 9 r7_3.1 ([] : List UInt8)) (aC (not_f hx16) (aC hx18 (aC hx18 (aC hx18 (aC (not_f hx20) (aC (not_f hx20) (aC (not_f hx20) (aC hx22 (aC hx22 (aC hx22 (aC hx24 (aC hx24 (aC hx24 (aC (show Quiet Try.prog (opAt (subC (bodyC Try.prog 7) [1, 1, 1, 1, 1, 1, 1, 1, 1, 1, 0]) 44) [e_GApiValue r9_5.1, .agg [aI .u8 0, aI .i64 0, aI .i64 0, aI .i64 0]] (aB (decide (r9_5.1.Kind = 0) && (decide (r9_5.1.N = 0) && (decide (r9_5.1.Re = 0) && decide (r9_5.1.Im = 0))))) from eqA_ob (P := Try.prog) (ne := false) (xs := [.int .u8 r9_5.1.Kind, .int .i64 r9_5.1.N, .int .i64 r9_5.1.Re, .int .i64 r9_5.1.Im]) (ys := [.int .u8 0, .int .i64 0, .int .i64 0, .int .i64 0]) (hh := none) ⟨_, by rfl⟩ (by kernel_rfl) (by kernel_rfl)) (aC hx24 (aC hx26 (aC hx26 (aC hx26 (aC hx28 (aC hx28 (aC hx28 (aC hx28 (aC hx28 (aC hx28 (aC hx28 (aC hx28 (aC hr11_58 (aC hx28 (aC hx28 (aC hx30 (aC hx30 (aC hr11_63 (aC hx30 (aC hx30 (aC hx32 (aC hx32 (aC hx32 (aC hx32 (aC hx32 aN)))))))))))))))))))))))))))))))))))))))))))))))))))))))))))))) (by kernel_rfl) ?_
                                  refine W_ret ?_
                                  exact kr [] _ _ (by kernel_rfl) (Option.some.inj h)
                              · have hx30 := hb29
                                have h := if_f h hx30
                                refine W_y (s' := LS.mk 157 [(2, aB false)] []) mixed [qn0, qn0, qn (.quiet (aB (decide (r4_3.1.Kind = 0) && (decide (r4_3.1.N = 0) && (decide (r4_3.1.Re = 0) && decide (r4_3.1.Im = 0)))))), qn0, qt0, qt0, qn (.dec true), qn0, qt0, qt0, qt (.quiet (aB (decide (r5_5.1.Kind = 0) && (decide (r5_5.1.N = 0) && (decide (r5_5.1.Re = 0) && decide (r5_5.1.Im = 0)))))), qn (.dec true), qn0, qt0, qt0, qn (.dec true), qn0, qt0, qt0, qt (.quiet (aB (decide (r6_5.1.Kind = 0) && (decide (r6_5.1.N = 0) && (decide (r6_5.1.Re = 0) && decide (r6_5.1.Im = 0)))))), qn (.dec true), qn0, qt0, qt0, qn (.dec true), qn0, qt0, qt (.val (.bool (decide (r7_3.1 = ([] : List UInt8))))), qn (.dec true), qn0, qt0, qt0, qn (.dec true), qn0, qt0, qt0, qn (.dec true), qn0, qt0, qt0, qn (.dec true), qn0, qt0, qt0, qt (.quiet (aB (decide (r9_5.1.Kind = 0) && (decide (r9_5.1.N = 0) && (decide (r9_5.1.Re = 0) && decide (r9_5.1.Im = 0)))))), qn (.dec true), qn0, qt0, qt0, qn (.dec true), qn0, qt0, qt0, qt0, qt0, qt0, qt0, qt0, qt (.call [] (aI .u8 r11_58)), qt0, qn (.dec true), qn0, qf0, qf0, qf0, qn (.dec false), qn0, qn0, qn0, qn0, qn0, qn0, qn0, qn0, qn0, qn0, qn0, qn0, qn0, qn0, qn0] ⟨[2], [], [], [], [], [], []⟩ (aC (show Quiet Try.prog (opAt (subC (bodyC Try.prog 7) [1, 1, 1, 1, 1, 1, 1, 1, 1, 1, 0]) 2) [e_GApiValue r4_3.1, .agg [aI .u8 0, aI .i64 0, aI .i64 0, aI .i64 0]] (aB (decide (r4_3.1.Kind = 0) && (decide (r4_3.1.N = 0) && (decide (r4_3.1.Re = 0) && decide (r4_3.1.Im = 0))))) from eqA_ob (P := Try.prog) (ne := false) (xs := [.int .u8 r4_3.1.Kind, .int .i64 r4_3.1.N, .int .i64 r4_3.1.Re, .int .i64 r4_3.1.Im]) (ys := [.int .u8 0, .int .i64 0, .int .i64 0, .int .i64 0]) (hh := none) ⟨_, by rfl⟩ (by kernel_rfl) (by kernel_rfl)) (aC hx6 (aC hx6 (aC hx6 (aC (not_f hx8) (aC (not_f hx8) (aC (not_f hx8) (aC (show Quiet Try.prog (opAt (subC (bodyC Try.prog 7) [1, 1, 1, 1, 1, 1, 1, 1, 1, 1, 0]) 10) [e_GApiValue r5_5.1, .agg [aI .u8 0, aI .i64 0, aI .i64 0, aI .i64 0]] (aB (decide (r5_5.1.Kind = 0) && (decide (r5_5.1.N = 0) && (decide (r5_5.1.Re = 0) && decide (r5_5.1.Im = 0))))) from eqA_ob (P := Try.prog) (ne := false) (xs := [.int .u8 r5_5.1.Kind, .int .i64 r5_5.1.N, .int .i64 r5_5.1.Re, .int .i64 r5_5.1.Im]) (ys := [.int .u8 0, .int .i64 0, .int .i64 0, .int .i64 0]) (hh := none) ⟨_, by rfl⟩ (by kernel_rfl) (by kernel_rfl)) (aC (not_f hx8) (aC hx10 (aC hx10 (aC hx10 (aC (not_f hx12) (aC (not_f hx12) (aC (not_f hx12) (aC (show Quiet Try.prog (opAt (subC (bodyC Try.prog 7) [1, 1, 1, 1, 1, 1, 1, 1, 1, 1, 0]) 19) [e_GApiValue r6_5.1, .agg [aI .u8 0, aI .i64 0, aI .i64 0, aI .i64 0]] (aB (decide (r6_5.1.Kind = 0) && (decide (r6_5.1.N = 0) && (decide (r6_5.1.Re = 0) && decide (r6_5.1.Im = 0))))) from eqA_ob (P := Try.prog) (ne := false) (xs := [.int .u8 r6_5.1.Kind, .int .i64 r6_5.1.N, .int .i64 r6_5.1.Re, .int .i64 r6_5.1.Im]) (ys := [.int .u8 0, .int .i64 0, .int .i64 0, .int .i64 0]) (hh := none) ⟨_, by rfl⟩ (by kernel_rfl) (by kernel_rfl)) (aC (not_f hx12) (aC hx14 (aC hx14 (aC hx14 (aC (not_f hx16) (aC (not_f hx16) (aC (str_eq_ob (P := Try.prog) 9 r7_3.1 ([] : List UInt8)) (aC (not_f hx16) (aC hx18 (aC hx18 (aC hx18 (aC (not_f hx20) (aC (not_f hx20) (aC (not_f hx20) (aC hx22 (aC hx22 (aC hx22 (aC hx24 (aC hx24 (aC hx24 (aC (show Quiet Try.prog (opAt (subC (bodyC Try.prog 7) [1, 1, 1, 1, 1, 1, 1, 1, 1, 1, 0]) 44) [e_GApiValue r9_5.1, .agg [aI .u8 0, aI .i64 0, aI .i64 0, aI .i64 0]] (aB (decide (r9_5.1.Kind = 0) && (decide (r9_5.1.N = 0) && (decide (r9_5.1.Re = 0) && decide (r9_5.1.Im = 0))))) from eqA_ob (P := Try.prog) (ne := false) (xs := [.int .u8 r9_5.1.Kind, .int .i64 r9_5.1.N, .int .i64 r9_5.1.Re, .int .i64 r9_5.1.Im]) (ys := [.int .u8 0, .int .i64 0, .int .i64 0, .int .i64 0]) (hh := none) ⟨_, by rfl⟩ (by kernel_rfl) (by kernel_rfl)) (aC hx24 (aC hx26 (aC hx26 (aC hx26 (aC hx28 (aC hx28 (aC hx28 (aC hx28 (aC hx28 (aC hx28 (aC hx28 (aC hx28 (aC hr11_58 (aC hx28 (aC hx28 (aC hx30 (aC hx30 (aC hx30 (aC hx30 aN)))))))))))))))))))))))))))))))))))))))))))))))))))))))) (by kernel_rfl) ?_
                                refine W_ret ?_
                                exact kr [] _ _ (by kernel_rfl) (Option.some.inj h)
                            · have hx28 := hb27
                              have h := if_f h hx28
                              refine W_y (s' := LS.mk 157 [(2, aB false)] []) mixed [qn0, qn0, qn (.quiet (aB (decide (r4_3.1.Kind = 0) && (decide (r4_3.1.N = 0) && (decide (r4_3.1.Re = 0) && decide (r4_3.1.Im = 0)))))), qn0, qt0, qt0, qn (.dec true), qn0, qt0, qt0, qt (.quiet (aB (decide (r5_5.1.Kind = 0) && (decide (r5_5.1.N = 0) && (decide (r5_5.1.Re = 0) && decide (r5_5.1.Im = 0)))))), qn (.dec true), qn0, qt0, qt0, qn (.dec true), qn0, qt0, qt0, qt (.quiet (aB (decide (r6_5.1.Kind = 0) && (decide (r6_5.1.N = 0) && (decide (r6_5.1.Re = 0) && decide (r6_5.1.Im = 0)))))), qn (.dec true), qn0, qt0, qt0, qn (.dec true), qn0, qt0, qt (.val (.bool (decide (r7_3.1 = ([] : List UInt8))))), qn (.dec true), qn0, qt0, qt0, qn (.dec true), qn0, qt0, qt0, qn (.dec true), qn0, qt0, qt0, qn (.dec true), qn0, qt0, qt0, qt (.quiet (aB (decide (r9_5.1.Kind = 0) && (decide (r9_5.1.N = 0) && (decide (r9_5.1.Re = 0) && decide (r9_5.1.Im = 0)))))), qn (.dec true), qn0, qt0, qt0, qn (.dec true), qn0, qf0, qf0, qf0, qf0, qf0, qf0, qf0, qf0, qf0, qn (.dec false), qn0, qn0, qn0, qn0, qn0, qn0, qn0, qn0, qn0, qn0, qn0, qn0, qn0, qn0, qn0, qn0, qn0, qn0, qn0, qn0] ⟨[2], [], [], [], [], [], []⟩ (aC (show Quiet Try.prog (opAt (subC (bodyC Try.prog 7) [1, 1, 1, 1, 1, 1, 1, 1, 1, 1, 0]) 2) [e_GApiValue r4_3.1, .agg [aI .u8 0, aI .i64 0, aI .i64 0, aI .i64 0]] (aB (decide (r4_3.1.Kind = 0) && (decide (r4_3.1.N = 0) && (decide (r4_3.1.Re = 0) && decide (r4_3.1.Im = 0))))) from eqA_ob (P := Try.prog) (ne := false) (xs := [.int .u8 r4_3.1.Kind, .int .i64 r4_3.1.N, .int .i64 r4_3.1.Re, .int .i64 r4_3.1.Im]) (ys := [.int .u8 0, .int .i64 0, .int .i64 0, .int .i64 0]) (hh := none) ⟨_, by rfl⟩ (by kernel_rfl) (by kernel_rfl)) (aC hx6 (aC hx6 (aC hx6 (aC (not_f hx8) (aC (not_f hx8) (aC (not_f hx8) (aC (show Quiet Try.prog (opAt (subC (bodyC Try.prog 7) [1, 1, 1, 1, 1, 1, 1, 1, 1, 1, 0]) 10) [e_GApiValue r5_5.1, .agg [aI .u8 0, aI .i64 0, aI .i64 0, aI .i64 0]] (aB (decide (r5_5.1.Kind = 0) && (decide (r5_5.1.N = 0) && (decide (r5_5.1.Re = 0) && decide (r5_5.1.Im = 0))))) from eqA_ob (P := Try.prog) (ne := false) (xs := [.int .u8 r5_5.1.Kind, .int .i64 r5_5.1.N, .int .i64 r5_5.1.Re, .int .i64 r5_5.1.Im]) (ys := [.int .u8 0, .int .i64 0, .int .i64 0, .int .i64 0]) (hh := none) ⟨_, by rfl⟩ (by kernel_rfl) (by kernel_rfl)) (aC (not_f hx8) (aC hx10 (aC hx10 (aC hx10 (aC (not_f hx12) (aC (not_f hx12) (aC (not_f hx12) (aC (show Quiet Try.prog (opAt (subC (bodyC Try.prog 7) [1, 1, 1, 1, 1, 1, 1, 1, 1, 1, 0]) 19) [e_GApiValue r6_5.1, .agg [aI .u8 0, aI .i64 0, aI .i64 0, aI .i64 0]] (aB (decide (r6_5.1.Kind = 0) && (decide (r6_5.1.N = 0) && (decide (r6_5.1.Re = 0) && decide (r6_5.1.Im = 0))))) from eqA_ob (P := Try.prog) (ne := false) (xs := [.int .u8 r6_5.1.Kind, .int .i64 r6_5.1.N, .int .i64 r6_5.1.Re, .int .i64 r6_5.1.Im]) (ys := [.int .u8 0, .int .i64 0, .int .i64 0, .int .i64 0]) (hh := none) ⟨_, by rfl⟩ (by kernel_rfl) (by kernel_rfl)) (aC (not_f hx12) (aC hx14 (aC hx14 (aC hx14 (aC (not_f hx16) (aC (not_f hx16) (aC (str_eq_ob (P := Try.prog) 9 r7_3.1 ([] : List UInt8)) (aC (not_f hx16) (aC hx18 (aC hx18 (aC hx18 (aC (not_f hx20) (aC (not_f hx20) (aC (not_f hx20) (aC hx22 (aC hx22 (aC hx22 (aC hx24 (aC hx24 (aC hx24 (aC (show Quiet Try.prog (opAt (subC (bodyC Try.prog 7) [1, 1, 1, 1, 1, 1, 1, 1, 1, 1, 0]) 44) [e_GApiValue r9_5.1, .agg [aI .u8 0, aI .i64 0, aI .i64 0, aI .i64 0]] (aB (decide (r9_5.1.Kind = 0) && (decide (r9_5.1.N = 0) && (decide (r9_5.1.Re = 0) && decide (r9_5.1.Im = 0))))) from eqA_ob (P := Try.prog) (ne := false) (xs := [.int .u8 r9_5.1.Kind, .int .i64 r9_5.1.N, .int .i64 r9_5.1.Re, .int .i64 r9_5.1.Im]) (ys := [.int .u8 0, .int .i64 0, .int .i64 0, .int .i64 0]) (hh := none) ⟨_, by rfl⟩ (by kernel_rfl) (by kernel_rfl)) (aC hx24 (aC hx26 (aC hx26 (aC hx26 (aC hx28 (aC hx28 (aC hx28 (aC hx28 (aC hx28 (aC hx28 (aC hx28 (aC hx28 (aC hx28 (aC hx28 aN))))))))))))))))))))))))))))))))))))))))))))))))))) (by kernel_rfl) ?_
                              refine W_ret ?_
                              exact kr [] _ _ (by kernel_rfl) (Option.some.inj h)
                          · have hx26 := hb25
                            have h := ib_f h hx26
                            refine W_y (s' := LS.mk 157 [(2, aB false)] []) mixed [qn0, qn0, qn (.quiet (aB (decide (r4_3.1.Kind = 0) && (decide (r4_3.1.N = 0) && (decide (r4_3.1.Re = 0) && decide (r4_3.1.Im = 0)))))), qn0, qt0, qt0, qn (.dec true), qn0, qt0, qt0, qt (.quiet (aB (decide (r5_5.1.Kind = 0) && (decide (r5_5.1.N = 0) && (decide (r5_5.1.Re = 0) && decide (r5_5.1.Im = 0)))))), qn (.dec true), qn0, qt0, qt0, qn (.dec true), qn0, qt0, qt0, qt (.quiet (aB (decide (r6_5.1.Kind = 0) && (decide (r6_5.1.N = 0) && (decide (r6_5.1.Re = 0) && decide (r6_5.1.Im = 0)))))), qn (.dec true), qn0, qt0, qt0, qn (.dec true), qn0, qt0, qt (.val (.bool (decide (r7_3.1 = ([] : List UInt8))))), qn (.dec true), qn0, qt0, qt0, qn (.dec true), qn0, qt0, qt0, qn (.dec true), qn0, qt0, qt0, qn (.dec true), qn0, qt0, qt0, qt (.quiet (aB (decide (r9_5.1.Kind = 0) && (decide (r9_5.1.N = 0) && (decide (r9_5.1.Re = 0) && decide (r9_5.1.Im = 0)))))), qn (.dec true), qn0, qf0, qf0, qn (.dec false), qn0, qn0, qn0, qn0, qn0, qn0, qn0, qn0, qn0, qn0, qn0, qn0, qn0, qn0, qn0, qn0, qn0, qn0, qn0, qn0, qn0, qn0, qn0, qn0, qn0, qn0, qn0, qn0, qn0, qn0, qn0] ⟨[2], [], [], [], [], [], []⟩ (aC (show Quiet Try.prog (opAt (subC (bodyC Try.prog 7) [1, 1, 1, 1, 1, 1, 1, 1, 1, 1, 0]) 2) [e_GApiValue r4_3.1, .agg [aI .u8 0, aI .i64 0, aI .i64 0, aI .i64 0]] (aB (decide (r4_3.1.Kind = 0) && (decide (r4_3.1.N = 0) && (decide (r4_3.1.Re = 0) && decide (r4_3.1.Im = 0))))) from eqA_ob (P := Try.prog) (ne := false) (xs := [.int .u8 r4_3.1.Kind, .int .i64 r4_3.1.N, .int .i64 r4_3.1.Re, .int .i64 r4_3.1.Im]) (ys := [.int .u8 0, .int .i64 0, .int .i64 0, .int .i64 0]) (hh := none) ⟨_, by rfl⟩ (by kernel_rfl) (by kernel_rfl)) (aC hx6 (aC hx6 (aC hx6 (aC (not_f hx8) (aC (not_f hx8) (aC (not_f hx8) (aC (show Quiet Try.prog (opAt (subC (bodyC Try.prog 7) [1, 1, 1, 1, 1, 1, 1, 1, 1, 1, 0]) 10) [e_GApiValue r5_5.1, .agg [aI .u8 0, aI .i64 0, aI .i64 0, aI .i64 0]] (aB (decide (r5_5.1.Kind = 0) && (decide (r5_5.1.N = 0) && (decide (r5_5.1.Re = 0) && decide (r5_5.1.Im = 0))))) from eqA_ob (P := Try.prog) (ne := false) (xs := [.int .u8 r5_5.1.Kind, .int .i64 r5_5.1.N, .int .i64 r5_5.1.Re, .int .i64 r5_5.1.Im]) (ys := [.int .u8 0, .int .i64 0, .int .i64 0, .int .i64 0]) (hh := none) ⟨_, by rfl⟩ (by kernel_rfl) (by kernel_rfl)) (aC (not_f hx8) (aC hx10 (aC hx10 (aC hx10 (aC (not_f hx12) (aC (not_f hx12) (aC (not_f hx12) (aC (show Quiet Try.prog (opAt (subC (bodyC Try.prog 7) [1, 1, 1, 1, 1, 1, 1, 1, 1, 1, 0]) 19) [e_GApiValue r6_5.1, .agg [aI .u8 0, aI .i64 0, aI .i64 0, aI .i64 0]] (aB (decide (r6_5.1.Kind = 0) && (decide (r6_5.1.N = 0) && (decide (r6_5.1.Re = 0) && decide (r6_5.1.Im = 0))))) from eqA_ob (P := Try.prog) (ne := false) (xs := [.int .u8 r6_5.1.Kind, .int .i64 r6_5.1.N, .int .i64 r6_5.1.Re, .int .i64 r6_5.1.Im]) (ys := [.int .u8 0, .int .i64 0, .int .i64 0, .int .i64 0]) (hh := none) ⟨_, by rfl⟩ (by kernel_rfl) (by kernel_rfl)) (aC (not_f hx12) (aC hx14 (aC hx14 (aC hx14 (aC (not_f hx16) (aC (not_f hx16) (aC (str_eq_ob (P := Try.prog) 9 r7_3.1 ([] : List UInt8)) (aC (not_f hx16) (aC hx18 (aC hx18 (aC hx18 (aC (not_f hx20) (aC (not_f hx20) (aC (not_f hx20) (aC hx22 (aC hx22 (aC hx22 (aC hx24 (aC hx24 (aC hx24 (aC (show Quiet Try.prog (opAt (subC (bodyC Try.prog 7) [1, 1, 1, 1, 1, 1, 1, 1, 1, 1, 0]) 44) [e_GApiValue r9_5.1, .agg [aI .u8 0, aI .i64 0, aI .i64 0, aI .i64 0]] (aB (decide (r9_5.1.Kind = 0) && (decide (r9_5.1.N = 0) && (decide (r9_5.1.Re = 0) && decide (r9_5.1.Im = 0))))) from eqA_ob (P := Try.prog) (ne := false) (xs := [.int .u8 r9_5.1.Kind, .int .i64 r9_5.1.N, .int .i64 r9_5.1.Re, .int .i64 r9_5.1.Im]) (ys := [.int .u8 0, .int .i64 0, .int .i64 0, .int .i64 0]) (hh := none) ⟨_, by rfl⟩ (by kernel_rfl) (by kernel_rfl)) (aC hx24 (aC hx26 (aC hx26 (aC hx26 aN))))))))))))))))))))))))))))))))))))))))) (by kernel_rfl) ?_
                            refine W_ret ?_
                            exact kr [] _ _ (by kernel_rfl) (Option.some.inj h)
                        · have hx24 := hb23
                          have h := if_f h hx24
                          refine W_y (s' := LS.mk 157 [(2, aB false)] []) mixed [qn0, qn0, qn (.quiet (aB (decide (r4_3.1.Kind = 0) && (decide (r4_3.1.N = 0) && (decide (r4_3.1.Re = 0) && decide (r4_3.1.Im = 0)))))), qn0, qt0, qt0, qn (.dec true), qn0, qt0, qt0, qt (.quiet (aB (decide (r5_5.1.Kind = 0) && (decide (r5_5.1.N = 0) && (decide (r5_5.1.Re = 0) && decide (r5_5.1.Im = 0)))))), qn (.dec true), qn0, qt0, qt0, qn (.dec true), qn0, qt0, qt0, qt (.quiet (aB (decide (r6_5.1.Kind = 0) && (decide (r6_5.1.N = 0) && (decide (r6_5.1.Re = 0) && decide (r6_5.1.Im = 0)))))), qn (.dec true), qn0, qt0, qt0, qn (.dec true), qn0, qt0, qt (.val (.bool (decide (r7_3.1 = ([] : List UInt8))))), qn (.dec true), qn0, qt0, qt0, qn (.dec true), qn0, qt0, qt0, qn (.dec true), qn0, qt0, qt0, qn (.dec true), qn0, qf0, qf0, qf0, qn (.dec false), qn0, qn0, qn0, qn0, qn0, qn0, qn0, qn0, qn0, qn0, qn0, qn0, qn0, qn0, qn0, qn0, qn0, qn0, qn0, qn0, qn0, qn0, qn0, qn0, qn0, qn0, qn0, qn0, qn0, qn0, qn0, qn0, qn0, qn0, qn0] ⟨[2], [], [], [], [], [], []⟩ (aC (show Quiet Try.prog (opAt (subC (bodyC Try.prog 7) [1, 1, 1, 1, 1, 1, 1, 1, 1, 1, 0]) 2) [e_GApiValue r4_3.1, .agg [aI .u8 0, aI .i64 0, aI .i64 0, aI .i64 0]] (aB (decide (r4_3.1.Kind = 0) && (decide (r4_3.1.N = 0) && (decide (r4_3.1.Re = 0) && decide (r4_3.1.Im = 0))))) from eqA_ob (P := Try.prog) (ne := false) (xs := [.int .u8 r4_3.1.Kind, .int .i64 r4_3.1.N, .int .i64 r4_3.1.Re, .int .i64 r4_3.1.Im]) (ys := [.int .u8 0, .int .i64 0, .int .i64 0, .int .i64 0]) (hh := none) ⟨_, by rfl⟩ (by kernel_rfl) (by kernel_rfl)) (aC hx6 (aC hx6 (aC hx6 (aC (not_f hx8) (aC (not_f hx8) (aC (not_f hx8) (aC (show Quiet Try.prog (opAt (subC (bodyC Try.prog 7) [1, 1, 1, 1, 1, 1, 1, 1, 1, 1, 0]) 10) [e_GApiValue r5_5.1, .agg [aI .u8 0, aI .i64 0, aI .i64 0, aI .i64 0]] (aB (decide (r5_5.1.Kind = 0) && (decide (r5_5.1.N = 0) && (decide (r5_5.1.Re = 0) && decide (r5_5.1.Im = 0))))) from eqA_ob (P := Try.prog) (ne := false) (xs := [.int .u8 r5_5.1.Kind, .int .i64 r5_5.1.N, .int .i64 r5_5.1.Re, .int .i64 r5_5.1.Im]) (ys := [.int .u8 0, .int .i64 0, .int .i64 0, .int .i64 0]) (hh := none) ⟨_, by rfl⟩ (by kernel_rfl) (by kernel_rfl)) (aC (not_f hx8) (aC hx10 (aC hx10 (aC hx10 (aC (not_f hx12) (aC (not_f hx12) (aC (not_f hx12) (aC (show Quiet Try.prog (opAt (subC (bodyC Try.prog 7) [1, 1, 1, 1, 1, 1, 1, 1, 1, 1, 0]) 19) [e_GApiValue r6_5.1, .agg [aI .u8 0, aI .i64 0, aI .i64 0, aI .i64 0]] (aB (decide (r6_5.1.Kind = 0) && (decide (r6_5.1.N = 0) && (decide (r6_5.1.Re = 0) && decide (r6_5.1.Im = 0))))) from eqA_ob (P := Try.prog) (ne := false) (xs := [.int .u8 r6_5.1.Kind, .int .i64 r6_5.1.N, .int .i64 r6_5.1.Re, .int .i64 r6_5.1.Im]) (ys := [.int .u8 0, .int .i64 0, .int .i64 0, .int .i64 0]) (hh := none) ⟨_, by rfl⟩ (by kernel_rfl) (by kernel_rfl)) (aC (not_f hx12) (aC hx14 (aC hx14 (aC hx14 (aC (not_f hx16) (aC (not_f hx16) (aC (str_eq_ob (P := Try.prog) 9 r7_3.1 ([] : List UInt8)) (aC (not_f hx16) (aC hx18 (aC hx18 (aC hx18 (aC (not_f hx20) (aC (not_f hx20) (aC (not_f hx20) (aC hx22 (aC hx22 (aC hx22 (aC hx24 (aC hx24 (aC hx24 (aC hx24 aN))))))))))))))))))))))))))))))))))))) (by kernel_rfl) ?_
                          refine W_ret ?_
                          exact kr [] _ _ (by kernel_rfl) (Option.some.inj h)
                      · have hx22 := hb21
                        have h := if_f h hx22
                        refine W_y (s' := LS.mk 157 [(2, aB false)] []) mixed [qn0, qn0, qn (.quiet (aB (decide (r4_3.1.Kind = 0) && (decide (r4_3.1.N = 0) && (decide (r4_3.1.Re = 0) && decide (r4_3.1.Im = 0)))))), qn0, qt0, qt0, qn (.dec true), qn0, qt0, qt0, qt (.quiet (aB (decide (r5_5.1.Kind = 0) && (decide (r5_5.1.N = 0) && (decide (r5_5.1.Re = 0) && decide (r5_5.1.Im = 0)))))), qn (.dec true), qn0, qt0, qt0, qn (.dec true), qn0, qt0, qt0, qt (.quiet (aB (decide (r6_5.1.Kind = 0) && (decide (r6_5.1.N = 0) && (decide (r6_5.1.Re = 0) && decide (r6_5.1.Im = 0)))))), qn (.dec true), qn0, qt0, qt0, qn (.dec true), qn0, qt0, qt (.val (.bool (decide (r7_3.1 = ([] : List UInt8))))), qn (.dec true), qn0, qt0, qt0, qn (.dec true), qn0, qt0, qt0, qn (.dec true), qn0, qf0, qf0, qn (.dec false), qn0, qn0, qn0, qn0, qn0, qn0, qn0, qn0, qn0, qn0, qn0, qn0, qn0, qn0, qn0, qn0, qn0, qn0, qn0, qn0, qn0, qn0, qn0, qn0, qn0, qn0, qn0, qn0, qn0, qn0, qn0, qn0, qn0, qn0, qn0, qn0, qn0, qn0, qn0, qn0] ⟨[2], [], [], [], [], [], []⟩ (aC (show Quiet Try.prog (opAt (subC (bodyC Try.prog 7) [1, 1, 1, 1, 1, 1, 1, 1, 1, 1, 0]) 2) [e_GApiValue r4_3.1, .agg [aI .u8 0, aI .i64 0, aI .i64 0, aI .i64 0]] (aB (decide (r4_3.1.Kind = 0) && (decide (r4_3.1.N = 0) && (decide (r4_3.1.Re = 0) && decide (r4_3.1.Im = 0))))) from eqA_ob (P := Try.prog) (ne := false) (xs := [.int .u8 r4_3.1.Kind, .int .i64 r4_3.1.N, .int .i64 r4_3.1.Re, .int .i64 r4_3.1.Im]) (ys := [.int .u8 0, .int .i64 0, .int .i64 0, .int .i64 0]) (hh := none) ⟨_, by rfl⟩ (by kernel_rfl) (by kernel_rfl)) (aC hx6 (aC hx6 (aC hx6 (aC (not_f hx8) (aC (not_f hx8) (aC (not_f hx8) (aC (show Quiet Try.prog (opAt (subC (bodyC Try.prog 7) [1, 1, 1, 1, 1, 1, 1, 1, 1, 1, 0]) 10) [e_GApiValue r5_5.1, .agg [aI .u8 0, aI .i64 0, aI .i64 0, aI .i64 0]] (aB (decide (r5_5.1.Kind = 0) && (decide (r5_5.1.N = 0) && (decide (r5_5.1.Re = 0) && decide (r5_5.1.Im = 0))))) from eqA_ob (P := Try.prog) (ne := false) (xs := [.int .u8 r5_5.1.Kind, .int .i64 r5_5.1.N, .int .i64 r5_5.1.Re, .int .i64 r5_5.1.Im]) (ys := [.int .u8 0, .int .i64 0, .int .i64 0, .int .i64 0]) (hh := none) ⟨_, by rfl⟩ (by kernel_rfl) (by kernel_rfl)) (aC (not_f hx8) (aC hx10 (aC hx10 (aC hx10 (aC (not_f hx12) (aC (not_f hx12) (aC (not_f hx12) (aC (show Quiet Try.prog (opAt (subC (bodyC Try.prog 7) [1, 1, 1, 1, 1, 1, 1, 1, 1, 1, 0]) 19) [e_GApiValue r6_5.1, .agg [aI .u8 0, aI .i64 0, aI .i64 0, aI .i64 0]] (aB (decide (r6_5.1.Kind = 0) && (decide (r6_5.1.N = 0) && (decide (r6_5.1.Re = 0) && decide (r6_5.1.Im = 0))))) from eqA_ob (P := Try.prog) (ne := false) (xs := [.int .u8 r6_5.1.Kind, .int .i64 r6_5.1.N, .int .i64 r6_5.1.Re, .int .i64 r6_5.1.Im]) (ys := [.int .u8 0, .int .i64 0, .int .i64 0, .int .i64 0]) (hh := none) ⟨_, by rfl⟩ (by kernel_rfl) (by kernel_rfl)) (aC (not_f hx12) (aC hx14 (aC hx14 (aC hx14 (aC (not_f hx16) (aC (not_f hx16) (aC (str_eq_ob (P := Try.prog) 9 r7_3.1 ([] : List UInt8)) (aC (not_f hx16) (aC hx18 (aC hx18 (aC hx18 (aC (not_f hx20) (aC (not_f hx20) (aC (not_f hx20) (aC hx22 (aC hx22 (aC hx22 aN))))))))))))))))))))))))))))))))) (by kernel_rfl) ?_
                        refine W_ret ?_
                        exact kr [] _ _ (by kernel_rfl) (Option.some.inj h)
                    · have hx20 : r7_3.2 = true := (bnot_f hb19)
                      have h := ib_t h hx20
                      refine W_y (s' := LS.mk 157 [(2, aB false)] []) mixed [qn0, qn0, qn (.quiet (aB (decide (r4_3.1.Kind = 0) && (decide (r4_3.1.N = 0) && (decide (r4_3.1.Re = 0) && decide (r4_3.1.Im = 0)))))), qn0, qt0, qt0, qn (.dec true), qn0, qt0, qt0, qt (.quiet (aB (decide (r5_5.1.Kind = 0) && (decide (r5_5.1.N = 0) && (decide (r5_5.1.Re = 0) && decide (r5_5.1.Im = 0)))))), qn (.dec true), qn0, qt0, qt0, qn (.dec true), qn0, qt0, qt0, qt (.quiet (aB (decide (r6_5.1.Kind = 0) && (decide (r6_5.1.N = 0) && (decide (r6_5.1.Re = 0) && decide (r6_5.1.Im = 0)))))), qn (.dec true), qn0, qt0, qt0, qn (.dec true), qn0, qt0, qt (.val (.bool (decide (r7_3.1 = ([] : List UInt8))))), qn (.dec true), qn0, qt0, qt0, qn (.dec true), qn0, qf0, qf0, qn (.dec false), qn0, qn0, qn0, qn0, qn0, qn0, qn0, qn0, qn0, qn0, qn0, qn0, qn0, qn0, qn0, qn0, qn0, qn0, qn0, qn0, qn0, qn0, qn0, qn0, qn0, qn0, qn0, qn0, qn0, qn0, qn0, qn0, qn0, qn0, qn0, qn0, qn0, qn0, qn0, qn0, qn0, qn0, qn0, qn0] ⟨[2], [], [], [], [], [], []⟩ (aC (show Quiet Try.prog (opAt (subC (bodyC Try.prog 7) [1, 1, 1, 1, 1, 1, 1, 1, 1, 1, 0]) 2) [e_GApiValue r4_3.1, .agg [aI .u8 0, aI .i64 0, aI .i64 0, aI .i64 0]] (aB (decide (r4_3.1.Kind = 0) && (decide (r4_3.1.N = 0) && (decide (r4_3.1.Re = 0) && decide (r4_3.1.Im = 0))))) from eqA_ob (P := Try.prog) (ne := false) (xs := [.int .u8 r4_3.1.Kind, .int .i64 r4_3.1.N, .int .i64 r4_3.1.Re, .int .i64 r4_3.1.Im]) (ys := [.int .u8 0, .int .i64 0, .int .i64 0, .int .i64 0]) (hh := none) ⟨_, by rfl⟩ (by kernel_rfl) (by kernel_rfl)) (aC hx6 (aC hx6 (aC hx6 (aC (not_f hx8) (aC (not_f hx8) (aC (not_f hx8) (aC (show Quiet Try.prog (opAt (subC (bodyC Try.prog 7) [1, 1, 1, 1, 1, 1, 1, 1, 1, 1, 0]) 10) [e_GApiValue r5_5.1, .agg [aI .u8 0, aI .i64 0, aI .i64 0, aI .i64 0]] (aB (decide (r5_5.1.Kind = 0) && (decide (r5_5.1.N = 0) && (decide (r5_5.1.Re = 0) && decide (r5_5.1.Im = 0))))) from eqA_ob (P := Try.prog) (ne := false) (xs := [.int .u8 r5_5.1.Kind, .int .i64 r5_5.1.N, .int .i64 r5_5.1.Re, .int .i64 r5_5.1.Im]) (ys := [.int .u8 0, .int .i64 0, .int .i64 0, .int .i64 0]) (hh := none) ⟨_, by rfl⟩ (by kernel_rfl) (by kernel_rfl)) (aC (not_f hx8) (aC hx10 (aC hx10 (aC hx10 (aC (not_f hx12) (aC (not_f hx12) (aC (not_f hx12) (aC (show Quiet Try.prog (opAt (subC (bodyC Try.prog 7) [1, 1, 1, 1, 1, 1, 1, 1, 1, 1, 0]) 19) [e_GApiValue r6_5.1, .agg [aI .u8 0, aI .i64 0, aI .i64 0, aI .i64 0]] (aB (decide (r6_5.1.Kind = 0) && (decide (r6_5.1.N = 0) && (decide (r6_5.1.Re = 0) && decide (r6_5.1.Im = 0))))) from eqA_ob (P := Try.prog) (ne := false) (xs := [.int .u8 r6_5.1.Kind, .int .i64 r6_5.1.N, .int .i64 r6_5.1.Re, .int .i64 r6_5.1.Im]) (ys := [.int .u8 0, .int .i64 0, .int .i64 0, .int .i64 0]) (hh := none) ⟨_, by rfl⟩ (by kernel_rfl) (by kernel_rfl)) (aC (not_f hx12) (aC hx14 (aC hx14 (aC hx14 (aC (not_f hx16) (aC (not_f hx16) (aC (str_eq_ob (P := Try.prog) 9 r7_3.1 ([] : List UInt8)) (aC (not_f hx16) (aC hx18 (aC hx18 (aC hx18 (aC (not_t hx20) (aC (not_t hx20) (aC (not_t hx20) aN)))))))))))))))))))))))))))))) (by kernel_rfl) ?_
                      refine W_ret ?_
                      exact kr [] _ _ (by kernel_rfl) (Option.some.inj h)
                  · have hx18 := hb17
                    have h := if_f h hx18
                    refine W_y (s' := LS.mk 157 [(2, aB false)] []) mixed [qn0, qn0, qn (.quiet (aB (decide (r4_3.1.Kind = 0) && (decide (r4_3.1.N = 0) && (decide (r4_3.1.Re = 0) && decide (r4_3.1.Im = 0)))))), qn0, qt0, qt0, qn (.dec true), qn0, qt0, qt0, qt (.quiet (aB (decide (r5_5.1.Kind = 0) && (decide (r5_5.1.N = 0) && (decide (r5_5.1.Re = 0) && decide (r5_5.1.Im = 0)))))), qn (.dec true), qn0, qt0, qt0, qn (.dec true), qn0, qt0, qt0, qt (.quiet (aB (decide (r6_5.1.Kind = 0) && (decide (r6_5.1.N = 0) && (decide (r6_5.1.Re = 0) && decide (r6_5.1.Im = 0)))))), qn (.dec true), qn0, qt0, qt0, qn (.dec true), qn0, qt0, qt (.val (.bool (decide (r7_3.1 = ([] : List UInt8))))), qn (.dec true), qn0, qf0, qf0, qn (.dec false), qn0, qn0, qn0, qn0, qn0, qn0, qn0, qn0, qn0, qn0, qn0, qn0, qn0, qn0, qn0, qn0, qn0, qn0, qn0, qn0, qn0, qn0, qn0, qn0, qn0, qn0, qn0, qn0, qn0, qn0, qn0, qn0, qn0, qn0, qn0, qn0, qn0, qn0, qn0, qn0, qn0, qn0, qn0, qn0, qn0, qn0, qn0, qn0] ⟨[2], [], [], [], [], [], []⟩ (aC (show Quiet Try.prog (opAt (subC (bodyC Try.prog 7) [1, 1, 1, 1, 1, 1, 1, 1, 1, 1, 0]) 2) [e_GApiValue r4_3.1, .agg [aI .u8 0, aI .i64 0, aI .i64 0, aI .i64 0]] (aB (decide (r4_3.1.Kind = 0) && (decide (r4_3.1.N = 0) && (decide (r4_3.1.Re = 0) && decide (r4_3.1.Im = 0))))) from eqA_ob (P := Try.prog) (ne := false) (xs := [.int .u8 r4_3.1.Kind, .int .i64 r4_3.1.N, .int .i64 r4_3.1.Re, .int .i64 r4_3.1.Im]) (ys := [.int .u8 0, .int .i64 0, .int .i64 0, .int .i64 0]) (hh := none) ⟨_, by rfl⟩ (by kernel_rfl) (by kernel_rfl)) (aC hx6 (aC hx6 (aC hx6 (aC (not_f hx8) (aC (not_f hx8) (aC (not_f hx8) (aC (show Quiet Try.prog (opAt (subC (bodyC Try.prog 7) [1, 1, 1, 1, 1, 1, 1, 1, 1, 1, 0]) 10) [e_GApiValue r5_5.1, .agg [aI .u8 0, aI .i64 0, aI .i64 0, aI .i64 0]] (aB (decide (r5_5.1.Kind = 0) && (decide (r5_5.1.N = 0) && (decide (r5_5.1.Re = 0) && decide (r5_5.1.Im = 0))))) from eqA_ob (P := Try.prog) (ne := false) (xs := [.int .u8 r5_5.1.Kind, .int .i64 r5_5.1.N, .int .i64 r5_5.1.Re, .int .i64 r5_5.1.Im]) (ys := [.int .u8 0, .int .i64 0, .int .i64 0, .int .i64 0]) (hh := none) ⟨_, by rfl⟩ (by kernel_rfl) (by kernel_rfl)) (aC (not_f hx8) (aC hx10 (aC hx10 (aC hx10 (aC (not_f hx12) (aC (not_f hx12) (aC (not_f hx12) (aC (show Quiet Try.prog (opAt (subC (bodyC Try.prog 7) [1, 1, 1, 1, 1, 1, 1, 1, 1, 1, 0]) 19) [e_GApiValue r6_5.1, .agg [aI .u8 0, aI .i64 0, aI .i64 0, aI .i64 0]] (aB (decide (r6_5.1.Kind = 0) && (decide (r6_5.1.N = 0) && (decide (r6_5.1.Re = 0) && decide (r6_5.1.Im = 0))))) from eqA_ob (P := Try.prog) (ne := false) (xs := [.int .u8 r6_5.1.Kind, .int .i64 r6_5.1.N, .int .i64 r6_5.1.Re, .int .i64 r6_5.1.Im]) (ys := [.int .u8 0, .int .i64 0, .int .i64 0, .int .i64 0]) (hh := none) ⟨_, by rfl⟩ (by kernel_rfl) (by kernel_rfl)) (aC (not_f hx12) (aC hx14 (aC hx14 (aC hx14 (aC (not_f hx16) (aC (not_f hx16) (aC (str_eq_ob (P := Try.prog) 9 r7_3.1 ([] : List UInt8)) (aC (not_f hx16) (aC hx18 (aC hx18 (aC hx18 aN))))))))))))))))))))))))))) (by kernel_rfl) ?_
                    refine W_ret ?_
                    exact kr [] _ _ (by kernel_rfl) (Option.some.inj h)
                · have hx16 : r6_5.2 = true := (bnot_f hb15)
                  have h := ib_t h hx16
                  refine W_y (s' := LS.mk 157 [(2, aB false)] []) mixed [qn0, qn0, qn (.quiet (aB (decide (r4_3.1.Kind = 0) && (decide (r4_3.1.N = 0) && (decide (r4_3.1.Re = 0) && decide (r4_3.1.Im = 0)))))), qn0, qt0, qt0, qn (.dec true), qn0, qt0, qt0, qt (.quiet (aB (decide (r5_5.1.Kind = 0) && (decide (r5_5.1.N = 0) && (decide (r5_5.1.Re = 0) && decide (r5_5.1.Im = 0)))))), qn (.dec true), qn0, qt0, qt0, qn (.dec true), qn0, qt0, qt0, qt (.quiet (aB (decide (r6_5.1.Kind = 0) && (decide (r6_5.1.N = 0) && (decide (r6_5.1.Re = 0) && decide (r6_5.1.Im = 0)))))), qn (.dec true), qn0, qt0, qt0, qn (.dec true), qn0, qf0, qf0, qn (.dec false), qn0, qn0, qn0, qn0, qn0, qn0, qn0, qn0, qn0, qn0, qn0, qn0, qn0, qn0, qn0, qn0, qn0, qn0, qn0, qn0, qn0, qn0, qn0, qn0, qn0, qn0, qn0, qn0, qn0, qn0, qn0, qn0, qn0, qn0, qn0, qn0, qn0, qn0, qn0, qn0, qn0, qn0, qn0, qn0, qn0, qn0, qn0, qn0, qn0, qn0, qn0, qn0] ⟨[2], [], [], [], [], [], []⟩ (aC (show Quiet Try.prog (opAt (subC (bodyC Try.prog 7) [1, 1, 1, 1, 1, 1, 1, 1, 1, 1, 0]) 2) [e_GApiValue r4_3.1, .agg [aI .u8 0, aI .i64 0, aI .i64 0, aI .i64 0]] (aB (decide (r4_3.1.Kind = 0) && (decide (r4_3.1.N = 0) && (decide (r4_3.1.Re = 0) && decide (r4_3.1.Im = 0))))) from eqA_ob (P := Try.prog) (ne := false) (xs := [.int .u8 r4_3.1.Kind, .int .i64 r4_3.1.N, .int .i64 r4_3.1.Re, .int .i64 r4_3.1.Im]) (ys := [.int .u8 0, .int .i64 0, .int .i64 0, .int .i64 0]) (hh := none) ⟨_, by rfl⟩ (by kernel_rfl) (by kernel_rfl)) (aC hx6 (aC hx6 (aC hx6 (aC (not_f hx8) (aC (not_f hx8) (aC (not_f hx8) (aC (show Quiet Try.prog (opAt (subC (bodyC Try.prog 7) [1, 1, 1, 1, 1, 1, 1, 1, 1, 1, 0]) 10) [e_GApiValue r5_5.1, .agg [aI .u8 0, aI .i64 0, aI .i64 0, aI .i64 0]] (aB (decide (r5_5.1.Kind = 0) && (decide (r5_5.1.N = 0) && (decide (r5_5.1.Re = 0) && decide (r5_5.1.Im = 0))))) from eqA_ob (P := Try.prog) (ne := false) (xs := [.int .u8 r5_5.1.Kind, .int .i64 r5_5.1.N, .int .i64 r5_5.1.Re, .int .i64 r5_5.1.Im]) (ys := [.int .u8 0, .int .i64 0, .int .i64 0, .int .i64 0]) (hh := none) ⟨_, by rfl⟩ (by kernel_rfl) (by kernel_rfl)) (aC (not_f hx8) (aC hx10 (aC hx10 (aC hx10 (aC (not_f hx12) (aC (not_f hx12) (aC (not_f hx12) (aC (show Quiet Try.prog (opAt (subC (bodyC Try.prog 7) [1, 1, 1, 1, 1, 1, 1, 1, 1, 1, 0]) 19) [e_GApiValue r6_5.1, .agg [aI .u8 0, aI .i64 0, aI .i64 0, aI .i64 0]] (aB (decide (r6_5.1.Kind = 0) && (decide (r6_5.1.N = 0) && (decide (r6_5.1.Re = 0) && decide (r6_5.1.Im = 0))))) from eqA_ob (P := Try.prog) (ne := false) (xs := [.int .u8 r6_5.1.Kind, .int .i64 r6_5.1.N, .int .i64 r6_5.1.Re, .int .i64 r6_5.1.Im]) (ys := [.int .u8 0, .int .i64 0, .int .i64 0, .int .i64 0]) (hh := none) ⟨_, by rfl⟩ (by kernel_rfl) (by kernel_rfl)) (aC (not_f hx12) (aC hx14 (aC hx14 (aC hx14 (aC (not_t hx16) (aC (not_t hx16) (aC (not_t hx16) aN))))))))))))))))))))))) (by kernel_rfl) ?_
                  refine W_ret ?_
                  exact kr [] _ _ (by kernel_rfl) (Option.some.inj h)
              · have hx14 := hb13
                have h := ib_f h hx14
                refine W_y (s' := LS.mk 157 [(2, aB false)] []) mixed [qn0, qn0, qn (.quiet (aB (decide (r4_3.1.Kind = 0) && (decide (r4_3.1.N = 0) && (decide (r4_3.1.Re = 0) && decide (r4_3.1.Im = 0)))))), qn0, qt0, qt0, qn (.dec true), qn0, qt0, qt0, qt (.quiet (aB (decide (r5_5.1.Kind = 0) && (decide (r5_5.1.N = 0) && (decide (r5_5.1.Re = 0) && decide (r5_5.1.Im = 0)))))), qn (.dec true), qn0, qt0, qt0, qn (.dec true), qn0, qt0, qt0, qt (.quiet (aB (decide (r6_5.1.Kind = 0) && (decide (r6_5.1.N = 0) && (decide (r6_5.1.Re = 0) && decide (r6_5.1.Im = 0)))))), qn (.dec true), qn0, qf0, qf0, qn (.dec false), qn0, qn0, qn0, qn0, qn0, qn0, qn0, qn0, qn0, qn0, qn0, qn0, qn0, qn0, qn0, qn0, qn0, qn0, qn0, qn0, qn0, qn0, qn0, qn0, qn0, qn0, qn0, qn0, qn0, qn0, qn0, qn0, qn0, qn0, qn0, qn0, qn0, qn0, qn0, qn0, qn0, qn0, qn0, qn0, qn0, qn0, qn0, qn0, qn0, qn0, qn0, qn0, qn0, qn0, qn0, qn0] ⟨[2], [], [], [], [], [], []⟩ (aC (show Quiet Try.prog (opAt (subC (bodyC Try.prog 7) [1, 1, 1, 1, 1, 1, 1, 1, 1, 1, 0]) 2) [e_GApiValue r4_3.1, .agg [aI .u8 0, aI .i64 0, aI .i64 0, aI .i64 0]] (aB (decide (r4_3.1.Kind = 0) && (decide (r4_3.1.N = 0) && (decide (r4_3.1.Re = 0) && decide (r4_3.1.Im = 0))))) from eqA_ob (P := Try.prog) (ne := false) (xs := [.int .u8 r4_3.1.Kind, .int .i64 r4_3.1.N, .int .i64 r4_3.1.Re, .int .i64 r4_3.1.Im]) (ys := [.int .u8 0, .int .i64 0, .int .i64 0, .int .i64 0]) (hh := none) ⟨_, by rfl⟩ (by kernel_rfl) (by kernel_rfl)) (aC hx6 (aC hx6 (aC hx6 (aC (not_f hx8) (aC (not_f hx8) (aC (not_f hx8) (aC (show Quiet Try.prog (opAt (subC (bodyC Try.prog 7) [1, 1, 1, 1, 1, 1, 1, 1, 1, 1, 0]) 10) [e_GApiValue r5_5.1, .agg [aI .u8 0, aI .i64 0, aI .i64 0, aI .i64 0]] (aB (decide (r5_5.1.Kind = 0) && (decide (r5_5.1.N = 0) && (decide (r5_5.1.Re = 0) && decide (r5_5.1.Im = 0))))) from eqA_ob (P := Try.prog) (ne := false) (xs := [.int .u8 r5_5.1.Kind, .int .i64 r5_5.1.N, .int .i64 r5_5.1.Re, .int .i64 r5_5.1.Im]) (ys := [.int .u8 0, .int .i64 0, .int .i64 0, .int .i64 0]) (hh := none) ⟨_, by rfl⟩ (by kernel_rfl) (by kernel_rfl)) (aC (not_f hx8) (aC hx10 (aC hx10 (aC hx10 (aC (not_f hx12) (aC (not_f hx12) (aC (not_f hx12) (aC (show Quiet Try.prog (opAt (subC (bodyC Try.prog 7) [1, 1, 1, 1, 1, 1, 1, 1, 1, 1, 0]) 19) [e_GApiValue r6_5.1, .agg [aI .u8 0, aI .i64 0, aI .i64 0, aI .i64 0]] (aB (decide (r6_5.1.Kind = 0) && (decide (r6_5.1.N = 0) && (decide (r6_5.1.Re = 0) && decide (r6_5.1.Im = 0))))) from eqA_ob (P := Try.prog) (ne := false) (xs := [.int .u8 r6_5.1.Kind, .int .i64 r6_5.1.N, .int .i64 r6_5.1.Re, .int .i64 r6_5.1.Im]) (ys := [.int .u8 0, .int .i64 0, .int .i64 0, .int .i64 0]) (hh := none) ⟨_, by rfl⟩ (by kernel_rfl) (by kernel_rfl)) (aC (not_f hx12) (aC hx14 (aC hx14 (aC hx14 aN)))))))))))))))))))) (by kernel_rfl) ?_
                refine W_ret ?_
                exact kr [] _ _ (by kernel_rfl) (Option.some.inj h)
            · have hx12 : r5_5.2 = true := (bnot_f hb11)
              have h := ib_t h hx12
              refine W_y (s' := LS.mk 157 [(2, aB false)] []) mixed [qn0, qn0, qn (.quiet (aB (decide (r4_3.1.Kind = 0) && (decide (r4_3.1.N = 0) && (decide (r4_3.1.Re = 0) && decide (r4_3.1.Im = 0)))))), qn0, qt0, qt0, qn (.dec true), qn0, qt0, qt0, qt (.quiet (aB (decide (r5_5.1.Kind = 0) && (decide (r5_5.1.N = 0) && (decide (r5_5.1.Re = 0) && decide (r5_5.1.Im = 0)))))), qn (.dec true), qn0, qt0, qt0, qn (.dec true), qn0, qf0, qf0, qf0, qn (.dec false), qn0, qn0, qn0, qn0, qn0, qn0, qn0, qn0, qn0, qn0, qn0, qn0, qn0, qn0, qn0, qn0, qn0, qn0, qn0, qn0, qn0, qn0, qn0, qn0, qn0, qn0, qn0, qn0, qn0, qn0, qn0, qn0, qn0, qn0, qn0, qn0, qn0, qn0, qn0, qn0, qn0, qn0, qn0, qn0, qn0, qn0, qn0, qn0, qn0, qn0, qn0, qn0, qn0, qn0, qn0, qn0, qn0, qn0, qn0, qn0] ⟨[2], [], [], [], [], [], []⟩ (aC (show Quiet Try.prog (opAt (subC (bodyC Try.prog 7) [1, 1, 1, 1, 1, 1, 1, 1, 1, 1, 0]) 2) [e_GApiValue r4_3.1, .agg [aI .u8 0, aI .i64 0, aI .i64 0, aI .i64 0]] (aB (decide (r4_3.1.Kind = 0) && (decide (r4_3.1.N = 0) && (decide (r4_3.1.Re = 0) && decide (r4_3.1.Im = 0))))) from eqA_ob (P := Try.prog) (ne := false) (xs := [.int .u8 r4_3.1.Kind, .int .i64 r4_3.1.N, .int .i64 r4_3.1.Re, .int .i64 r4_3.1.Im]) (ys := [.int .u8 0, .int .i64 0, .int .i64 0, .int .i64 0]) (hh := none) ⟨_, by rfl⟩ (by kernel_rfl) (by kernel_rfl)) (aC hx6 (aC hx6 (aC hx6 (aC (not_f hx8) (aC (not_f hx8) (aC (not_f hx8) (aC (show Quiet Try.prog (opAt (subC (bodyC Try.prog 7) [1, 1, 1, 1, 1, 1, 1, 1, 1, 1, 0]) 10) [e_GApiValue r5_5.1, .agg [aI .u8 0, aI .i64 0, aI .i64 0, aI .i64 0]] (aB (decide (r5_5.1.Kind = 0) && (decide (r5_5.1.N = 0) && (decide (r5_5.1.Re = 0) && decide (r5_5.1.Im = 0))))) from eqA_ob (P := Try.prog) (ne := false) (xs := [.int .u8 r5_5.1.Kind, .int .i64 r5_5.1.N, .int .i64 r5_5.1.Re, .int .i64 r5_5.1.Im]) (ys := [.int .u8 0, .int .i64 0, .int .i64 0, .int .i64 0]) (hh := none) ⟨_, by rfl⟩ (by kernel_rfl) (by kernel_rfl)) (aC (not_f hx8) (aC hx10 (aC hx10 (aC hx10 (aC (not_t hx12) (aC (not_t hx12) (aC (not_t hx12) (aC (not_t hx12) aN)))))))))))))))) (by kernel_rfl) ?_
              refine W_ret ?_
              exact kr [] _ _ (by kernel_rfl) (Option.some.inj h)
          · have hx10 := hb9
            have h := ib_f h hx10
            refine W_y (s' := LS.mk 157 [(2, aB false)] []) mixed [qn0, qn0, qn (.quiet (aB (decide (r4_3.1.Kind = 0) && (decide (r4_3.1.N = 0) && (decide (r4_3.1.Re = 0) && decide (r4_3.1.Im = 0)))))), qn0, qt0, qt0, qn (.dec true), qn0, qt0, qt0, qt (.quiet (aB (decide (r5_5.1.Kind = 0) && (decide (r5_5.1.N = 0) && (decide (r5_5.1.Re = 0) && decide (r5_5.1.Im = 0)))))), qn (.dec true), qn0, qf0, qf0, qn (.dec false), qn0, qn0, qn0, qn0, qn0, qn0, qn0, qn0, qn0, qn0, qn0, qn0, qn0, qn0, qn0, qn0, qn0, qn0, qn0, qn0, qn0, qn0, qn0, qn0, qn0, qn0, qn0, qn0, qn0, qn0, qn0, qn0, qn0, qn0, qn0, qn0, qn0, qn0, qn0, qn0, qn0, qn0, qn0, qn0, qn0, qn0, qn0, qn0, qn0, qn0, qn0, qn0, qn0, qn0, qn0, qn0, qn0, qn0, qn0, qn0, qn0, qn0, qn0, qn0, qn0] ⟨[2], [], [], [], [], [], []⟩ (aC (show Quiet Try.prog (opAt (subC (bodyC Try.prog 7) [1, 1, 1, 1, 1, 1, 1, 1, 1, 1, 0]) 2) [e_GApiValue r4_3.1, .agg [aI .u8 0, aI .i64 0, aI .i64 0, aI .i64 0]] (aB (decide (r4_3.1.Kind = 0) && (decide (r4_3.1.N = 0) && (decide (r4_3.1.Re = 0) && decide (r4_3.1.Im = 0))))) from eqA_ob (P := Try.prog) (ne := false) (xs := [.int .u8 r4_3.1.Kind, .int .i64 r4_3.1.N, .int .i64 r4_3.1.Re, .int .i64 r4_3.1.Im]) (ys := [.int .u8 0, .int .i64 0, .int .i64 0, .int .i64 0]) (hh := none) ⟨_, by rfl⟩ (by kernel_rfl) (by kernel_rfl)) (aC hx6 (aC hx6 (aC hx6 (aC (not_f hx8) (aC (not_f hx8) (aC (not_f hx8) (aC (show Quiet Try.prog (opAt (subC (bodyC Try.prog 7) [1, 1, 1, 1, 1, 1, 1, 1, 1, 1, 0]) 10) [e_GApiValue r5_5.1, .agg [aI .u8 0, aI .i64 0, aI .i64 0, aI .i64 0]] (aB (decide (r5_5.1.Kind = 0) && (decide (r5_5.1.N = 0) && (decide (r5_5.1.Re = 0) && decide (r5_5.1.Im = 0))))) from eqA_ob (P := Try.prog) (ne := false) (xs := [.int .u8 r5_5.1.Kind, .int .i64 r5_5.1.N, .int .i64 r5_5.1.Re, .int .i64 r5_5.1.Im]) (ys := [.int .u8 0, .int .i64 0, .int .i64 0, .int .i64 0]) (hh := none) ⟨_, by rfl⟩ (by kernel_rfl) (by kernel_rfl)) (aC (not_f hx8) (aC hx10 (aC hx10 (aC hx10 aN)))))))))))) (by kernel_rfl) ?_
            refine W_ret ?_
            exact kr [] _ _ (by kernel_rfl) (Option.some.inj h)
        · have hx8 : r4_3.2 = true := (bnot_f hb7)
          have h := ib_t h hx8
          refine W_y (s' := LS.mk 157 [(2, aB false)] []) mixed [qn0, qn0, qn (.quiet (aB (decide (r4_3.1.Kind = 0) && (decide (r4_3.1.N = 0) && (decide (r4_3.1.Re = 0) && decide (r4_3.1.Im = 0)))))), qn0, qt0, qt0, qn (.dec true), qn0, qf0, qf0, qf0, qn (.dec false), qn0, qn0, qn0, qn0, qn0, qn0, qn0, qn0, qn0, qn0, qn0, qn0, qn0, qn0, qn0, qn0, qn0, qn0, qn0, qn0, qn0, qn0, qn0, qn0, qn0, qn0, qn0, qn0, qn0, qn0, qn0, qn0, qn0, qn0, qn0, qn0, qn0, qn0, qn0, qn0, qn0, qn0, qn0, qn0, qn0, qn0, qn0, qn0, qn0, qn0, qn0, qn0, qn0, qn0, qn0, qn0, qn0, qn0, qn0, qn0, qn0, qn0, qn0, qn0, qn0, qn0, qn0, qn0, qn0] ⟨[2], [], [], [], [], [], []⟩ (aC (show Quiet Try.prog (opAt (subC (bodyC Try.prog 7) [1, 1, 1, 1, 1, 1, 1, 1, 1, 1, 0]) 2) [e_GApiValue r4_3.1, .agg [aI .u8 0, aI .i64 0, aI .i64 0, aI .i64 0]] (aB (decide (r4_3.1.Kind = 0) && (decide (r4_3.1.N = 0) && (decide (r4_3.1.Re = 0) && decide (r4_3.1.Im = 0))))) from eqA_ob (P := Try.prog) (ne := false) (xs := [.int .u8 r4_3.1.Kind, .int .i64 r4_3.1.N, .int .i64 r4_3.1.Re, .int .i64 r4_3.1.Im]) (ys := [.int .u8 0, .int .i64 0, .int .i64 0, .int .i64 0]) (hh := none) ⟨_, by rfl⟩ (by kernel_rfl) (by kernel_rfl)) (aC hx6 (aC hx6 (aC hx6 (aC (not_t hx8) (aC (not_t hx8) (aC (not_t hx8) (aC (not_t hx8) aN)))))))) (by kernel_rfl) ?_
          refine W_ret ?_
          exact kr [] _ _ (by kernel_rfl) (Option.some.inj h)
      · have hx6 := hb5
        have h := ib_f h hx6
        refine W_y (s' := LS.mk 157 [(2, aB false)] []) mixed [qn0, qn0, qn (.quiet (aB (decide (r4_3.1.Kind = 0) && (decide (r4_3.1.N = 0) && (decide (r4_3.1.Re = 0) && decide (r4_3.1.Im = 0)))))), qn0, qf0, qf0, qn (.dec false), qn0, qn0, qn0, qn0, qn0, qn0, qn0, qn0, qn0, qn0, qn0, qn0, qn0, qn0, qn0, qn0, qn0, qn0, qn0, qn0, qn0, qn0, qn0, qn0, qn0, qn0, qn0, qn0, qn0, qn0, qn0, qn0, qn0, qn0, qn0, qn0, qn0, qn0, qn0, qn0, qn0, qn0, qn0, qn0, qn0, qn0, qn0, qn0, qn0, qn0, qn0, qn0, qn0, qn0, qn0, qn0, qn0, qn0, qn0, qn0, qn0, qn0, qn0, qn0, qn0, qn0, qn0, qn0, qn0, qn0, qn0, qn0, qn0, qn0] ⟨[2], [], [], [], [], [], []⟩ (aC (show Quiet Try.prog (opAt (subC (bodyC Try.prog 7) [1, 1, 1, 1, 1, 1, 1, 1, 1, 1, 0]) 2) [e_GApiValue r4_3.1, .agg [aI .u8 0, aI .i64 0, aI .i64 0, aI .i64 0]] (aB (decide (r4_3.1.Kind = 0) && (decide (r4_3.1.N = 0) && (decide (r4_3.1.Re = 0) && decide (r4_3.1.Im = 0))))) from eqA_ob (P := Try.prog) (ne := false) (xs := [.int .u8 r4_3.1.Kind, .int .i64 r4_3.1.N, .int .i64 r4_3.1.Re, .int .i64 r4_3.1.Im]) (ys := [.int .u8 0, .int .i64 0, .int .i64 0, .int .i64 0]) (hh := none) ⟨_, by rfl⟩ (by kernel_rfl) (by kernel_rfl)) (aC hx6 (aC hx6 (aC hx6 aN)))) (by kernel_rfl) ?_
        refine W_ret ?_
        exact kr [] _ _ (by kernel_rfl) (Option.some.inj h)
end Go.Proofs.Ytblikpgdepjhdaa
