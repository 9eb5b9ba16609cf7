/- Parts of the proof. -/
import Derived.Test.YtblikpgdepjhdaaHaHpLoad3
import Derived.Test.YtblikpgdepjhdaaHaHpCopy
namespace Go.Proofs.Ytblikpgdepjhdaa
open Go.RowKit
set_option linter.unusedVariables false
set_option maxRecDepth 100000
set_option maxHeartbeats 4000000
def R_l11_awake  (r : Bool) : Prop := FnP Try.prog 10 [] (aB r)
abbrev l11_awake_e (x : Bool) : A := (aB x)
noncomputable def l11_awake  : Option Bool :=
  ((xheap_New 3).bind fun (r1_0 : ((Option GHeapHeap) × Int)) => optCase r1_0.1 (some false) fun (y1_0 : GHeapHeap) => (if r1_0.2 = 0 then ((xheap_Heap_Str y1_0 ([110, 105, 110, 101, 98, 121, 116, 101, 115] : List UInt8)).bind fun (r4_1 : (GApiValue × Bool × GHeapHeap)) => ((xheap_Heap_List r4_1.2.2 1 0 (GApiValue.mk 1 0 0 0)).bind fun (r5_2 : (GApiValue × Bool × GHeapHeap)) => ((xheap_Heap_Size r5_2.2.2 r4_1.1).bind fun (r6_2 : (Int × Int)) => (if r4_1.2.1 = true then (if r5_2.2.1 = true then (some false) else (if r6_2.1 = 9 then (if r6_2.2 = 0 then ((xheap_Heap_Cells r5_2.2.2).bind fun (r7_15 : Int) => (some (decide (r7_15 = 3)))) else (some false)) else (some false))) else (some false))))) else (some false)))
theorem l11_awake_ok  {r_ : Bool} (h : l11_awake  = some r_) : R_l11_awake  r_ := by
 unfold l11_awake at h
 refine fn_pureZ (enc := l11_awake_e) (by kernel_rfl) fun Q' kr kn => ?_
 refine Wd [] [] [] [] [q_] aN ?_
 obtain ⟨r1_0, hr1_0, h⟩ := bindk xheap_New_ok h
 unfold RI_heap_New at hr1_0
 rcases hc_y1_0 : r1_0.1 with _ | y1_0
 rw [hc_y1_0] at hr1_0
 have h := oc_nx hc_y1_0 h
 refine Wd [(1, aPnil), (2, aI .i64 r1_0.2)] [] [] [] [qn (.io ⟨[], [], [], [], [], [], []⟩ (.tup [aPnil, aI .i64 r1_0.2]) []), q_, q_, q_, q_, q_] (aC hr1_0 aN) ?_
 refine W_seq ?_
 refine Wd [(18, aB true)] [2] [] [] (qz 6 []) aN ?_
 refine W_ct (e := true) rfl (by kernel_rfl) ?_
 refine Wd [(0, aB false)] [1, 18] [] [] [q_] aN ?_
 refine W_ret ?_
 exact kre kr [] h
 rw [hc_y1_0] at hr1_0
 have h := oc_sx hc_y1_0 h
 refine Wz [(1, .ob 1001), (2, aI .i64 r1_0.2)] [] [(1001, some (.obj (.any (rep_GHeapHeap y1_0))))] (cG [] [] [] [(10, 1001)] [] []) [qn (.io ⟨[], [], [], [], [], [], [(700000, 10)]⟩ (.tup [.ob 700000, aI .i64 r1_0.2]) [(700000, .obj (.any (rep_GHeapHeap y1_0)))]), q_, q_, q_, q_, q_] (aC hr1_0 aN) ?_
 refine W_seq ?_
 refine Wd [(18, aB (!(decide (r1_0.2 = 0))))] [2] [] [] (qz 6 []) aN ?_
 refine W_cdn h (by kernel_rfl) (fun hx1 h => ?_) (fun hx1 h => ?_)
 refine W_skip ?_
 obtain ⟨r4_1, hr4_1, h⟩ := bindk xheap_Heap_Str_ok h
 refine Wd [(3, .ptr 3 0), (4, aB r4_1.2.1)] [18] [(3, .box 46 (b_GApiValue r4_1.1)), (1001, .obj (.any (rep_GHeapHeap r4_1.2.2)))] [] (q_ :: qn (.io ⟨[], [(1001, 900)], [], [], [], [], [(900, 1001)]⟩ (.tup [e_GApiValue r4_1.1, aB r4_1.2.1]) [(900, .obj (.any (rep_GHeapHeap r4_1.2.2)))]) :: (qz 6 [])) (aC hr4_1 aN) ?_
 obtain ⟨r5_2, hr5_2, h⟩ := bindk xheap_Heap_List_ok h
 refine Wd [(6, aB r5_2.2.1)] [] [(1001, .obj (.any (rep_GHeapHeap r5_2.2.2)))] [] (q_ :: q_ :: qn (.io ⟨[], [(1001, 900)], [], [], [], [], [(900, 1001)]⟩ (.tup [e_GApiValue r5_2.1, aB r5_2.2.1]) [(900, .obj (.any (rep_GHeapHeap r5_2.2.2)))]) :: (qz 6 [])) (aC hr5_2 aN) ?_
 obtain ⟨r6_2, hr6_2, h⟩ := bindk xheap_Heap_Size_ok h
 refine Wd [(7, aI .i64 r6_2.1), (8, aI .u8 r6_2.2)] [3] [] [3] [q_, q_, qn (.io ⟨[], [(1001, 900)], [], [], [], [], [(900, 1001)]⟩ (.tup [aI .i64 r6_2.1, aI .u8 r6_2.2]) [(900, .obj (.any (rep_GHeapHeap r5_2.2.2)))]), q_, q_, q_, q_, q_] (aC hr6_2 aN) ?_
 refine ib_c h (fun hx2 h => ?_) (fun hx2 h => ?_)
 refine ib_c h (fun hx3 h => ?_) (fun hx3 h => ?_)
 refine Wd [(0, aB false)] [1, 4, 6, 7, 8] [] [1001] (q_ :: q_ :: qt0 :: qt0 :: qn (.dec true) :: q_ :: qf0 :: qf0 :: qn (.dec false) :: (qz 10 [])) (aC hx2 (aC hx2 (aC hx2 (aC (not_t hx3) (aC (not_t hx3) (aC (not_t hx3) aN)))))) ?_
 refine W_ret ?_
 exact kre kr [] h
 refine if_c h (fun hx4 h => ?_) (fun hx4 h => ?_)
 refine if_c h (fun hx5 h => ?_) (fun hx5 h => ?_)
 obtain ⟨r7_15, hr7_15, h⟩ := bindk xheap_Heap_Cells_ok h
 refine Wd [(0, aB (decide (r7_15 = 3)))] [1, 4, 6, 7, 8] [] [1001] [q_, q_, qt0, qt0, qn (.dec true), q_, qt0, qt0, qn (.dec true), q_, qt0, qt0, qn (.dec true), q_, qt0, qt (.io ⟨[], [(1001, 900)], [], [], [], [], [(900, 1001)]⟩ (aI .i64 r7_15) [(900, .obj (.any (rep_GHeapHeap r5_2.2.2)))]), qt0, qn (.dec true), q_] (aC hx2 (aC hx2 (aC hx2 (aC (not_f hx3) (aC (not_f hx3) (aC (not_f hx3) (aC hx4 (aC hx4 (aC hx4 (aC hx5 (aC hx5 (aC hr7_15 (aC hx5 (aC hx5 aN)))))))))))))) ?_
 refine W_ret ?_
 exact kre kr [] h
 refine Wd [(0, aB false)] [1, 4, 6, 7, 8] [] [1001] [q_, q_, qt0, qt0, qn (.dec true), q_, qt0, qt0, qn (.dec true), q_, qt0, qt0, qn (.dec true), q_, qf0, qf0, qf0, qn (.dec false), q_] (aC hx2 (aC hx2 (aC hx2 (aC (not_f hx3) (aC (not_f hx3) (aC (not_f hx3) (aC hx4 (aC hx4 (aC hx4 (aC hx5 (aC hx5 (aC hx5 (aC hx5 aN))))))))))))) ?_
 refine W_ret ?_
 exact kre kr [] h
 refine Wd [(0, aB false)] [1, 4, 6, 7, 8] [] [1001] (q_ :: q_ :: qt0 :: qt0 :: qn (.dec true) :: q_ :: qt0 :: qt0 :: qn (.dec true) :: q_ :: qf0 :: qf0 :: qn (.dec false) :: (qz 6 [])) (aC hx2 (aC hx2 (aC hx2 (aC (not_f hx3) (aC (not_f hx3) (aC (not_f hx3) (aC hx4 (aC hx4 (aC hx4 aN))))))))) ?_
 refine W_ret ?_
 exact kre kr [] h
 refine Wd [(0, aB false)] [1, 4, 6, 7, 8] [] [1001] (q_ :: q_ :: qf0 :: qf0 :: qn (.dec false) :: (qz 14 [])) (aC hx2 (aC hx2 (aC hx2 aN))) ?_
 refine W_ret ?_
 exact kre kr [] h
 refine Wd [(0, aB false)] [1, 18] [] [1001] [q_] aN ?_
 refine W_ret ?_
 exact kre kr [] h
def R_r11_SameValues (a0 : (List GApiValue)) (a1 : (List GApiValue)) (r : Bool) : Prop := FnP Try.prog 34 [.t (.sl 4 (a0.map c_GApiValue)), .t (.sl 4 (a1.map c_GApiValue))] (aB r)
inductive r11_SameValues_C where
  | l0 (a0 : (List GApiValue)) (a1 : (List GApiValue)) (v0_13_0 : Int)
  | j1
abbrev r11_SameValues_C_T : r11_SameValues_C → Type := fun _ => Bool
noncomputable def r11_SameValues_l0_b (g : (i : r11_SameValues_C) → Option (r11_SameValues_C_T i)) (a0 : (List GApiValue)) (a1 : (List GApiValue)) (v0_13_0 : Int) : Option Bool :=
  (if v0_13_0 < (a0.length : Int) then ((getI a0 v0_13_0).bind fun (x6_2 : GApiValue) => ((getI a1 v0_13_0).bind fun (x6_6 : GApiValue) => (if (decide (x6_2.Kind = x6_6.Kind) && (decide (x6_2.N = x6_6.N) && (decide (x6_2.Re = x6_6.Re) && decide (x6_2.Im = x6_6.Im)))) = true then g (.l0 a0 a1 (w64 (v0_13_0 + 1))) else (some false)))) else g (.j1))
noncomputable def r11_SameValues_j1_b (g : (i : r11_SameValues_C) → Option (r11_SameValues_C_T i))  : Option Bool :=
  (some true)
noncomputable def r11_SameValues_B (g : (i : r11_SameValues_C) → Option (r11_SameValues_C_T i)) : (i : r11_SameValues_C) → Option (r11_SameValues_C_T i)
  | .l0 a0 a1 v0_13_0 => r11_SameValues_l0_b g a0 a1 v0_13_0
  | .j1  => r11_SameValues_j1_b g
theorem r11_SameValues_B_fin (i : r11_SameValues_C) : Fin1 (fun g => r11_SameValues_B g i) := by
 cases i
 all_goals (delta r11_SameValues_B; dsimp only)
 unfold r11_SameValues_l0_b; rotate_left
 unfold r11_SameValues_j1_b; rotate_left
 all_goals repeat (first | refine fin_bind ?_ (fun _ => ?_) | refine fin_ite ?_ ?_ | refine fin_opt ?_ (fun _ => ?_) | exact fin_ask _ | exact fin_const _)
noncomputable def r11_SameValues_l0 (a0 : (List GApiValue)) (a1 : (List GApiValue)) (v0_13_0 : Int) : Option Bool := fixD r11_SameValues_B (.l0 a0 a1 v0_13_0)
noncomputable def r11_SameValues_j1  : Option Bool := fixD r11_SameValues_B (.j1 )
theorem r11_SameValues_l0_eq (a0 : (List GApiValue)) (a1 : (List GApiValue)) (v0_13_0 : Int) : r11_SameValues_l0 a0 a1 v0_13_0 =
  (if v0_13_0 < (a0.length : Int) then ((getI a0 v0_13_0).bind fun (x6_2 : GApiValue) => ((getI a1 v0_13_0).bind fun (x6_6 : GApiValue) => (if (decide (x6_2.Kind = x6_6.Kind) && (decide (x6_2.N = x6_6.N) && (decide (x6_2.Re = x6_6.Re) && decide (x6_2.Im = x6_6.Im)))) = true then r11_SameValues_l0 a0 a1 (w64 (v0_13_0 + 1)) else (some false)))) else r11_SameValues_j1) := fix_eq r11_SameValues_B_fin _
theorem r11_SameValues_j1_eq  : r11_SameValues_j1  =
  (some true) := fix_eq r11_SameValues_B_fin _
abbrev r11_SameValues_e (x : Bool) : A := (aB x)
def r11_SameValues_l0_s (a0 : (List GApiValue)) (a1 : (List GApiValue)) (v0_13_0 : Int) : LS := LS.mk 26 [(0, .t (.sl 4 (a0.map c_GApiValue))), (1, .t (.sl 4 (a1.map c_GApiValue))), (12, aI .i64 (a0.length : Int)), (13, aI .i64 v0_13_0)] []
def r11_SameValues_j1_s  : LS := LS.mk 26 [] []
theorem r11_SameValues_l0_ok (n : Nat)  (a0 : (List GApiValue)) (a1 : (List GApiValue)) (v0_13_0 : Int) (r_ : Bool) (Q' : Exit → St → Prop) (kr : KR Try.prog 34 r11_SameValues_e r_ .ret Q') (k_x_0 : KX r11_SameValues_B n (.j1 ) r_ (r11_SameValues_j1_s ) (.exit 0) Q') (h : recN r11_SameValues_B n (.l0 a0 a1 v0_13_0) = some r_) : W Try.prog (subC (bodyC Try.prog 34) [1, 1, 0, 1, 0]) (r11_SameValues_l0_s a0 a1 v0_13_0).st Q' := by
 refine W_fix (σ := Int) (fun m x_ => m ≤ n ∧ recN r11_SameValues_B m (.l0 a0 a1 x_) = some r_) (fun x_ => r11_SameValues_l0_s a0 a1 x_) (fun x hx => by cases hx.2) (fun _ _ => rfl) ?_ n (v0_13_0) ⟨Nat.le_refl _, h⟩
 clear h
 rintro m v0_13_0 ⟨hlt, h⟩
 replace h : r11_SameValues_l0_b (recN r11_SameValues_B m) a0 a1 v0_13_0 = some r_ := h
 unfold r11_SameValues_l0_b at h
 refine Wd [(14, aB (decide (v0_13_0 < (a0.length : Int))))] [] [] [] [q_] aN ?_
 refine W_seq ?_
 refine W_cd h (by kernel_rfl) (fun hx1001 h => ?_) (fun hx1001 h => ?_)
 refine W_skip ?_
 refine W_seq ?_
 refine W_block ?_
 refine Wd [(5, aI .i64 v0_13_0)] [14] [] [] [q_, q_] aN ?_
 obtain ⟨x6_2, hx6_2, h⟩ := bind_ok h
 obtain ⟨x6_6, hx6_6, h⟩ := bind_ok h
 refine Wd [(24, aB (!(decide (x6_2.Kind = x6_6.Kind) && (decide (x6_2.N = x6_6.N) && (decide (x6_2.Re = x6_6.Re) && decide (x6_2.Im = x6_6.Im))))))] [5] [] [] [q_, q_, qn (.ix (Int.toNat v0_13_0) (c_GApiValue x6_2)), q_, q_, q_, qn (.ix (Int.toNat v0_13_0) (c_GApiValue x6_6)), q_, qn (.quiet (aB (!(decide (x6_2.Kind = x6_6.Kind) && (decide (x6_2.N = x6_6.N) && (decide (x6_2.Re = x6_6.Re) && decide (x6_2.Im = x6_6.Im)))))))] (aC (ix_obx c_GApiValue hx6_2) (aC (ix_obx c_GApiValue hx6_6) (aC (show Quiet Try.prog (opAt (subC (bodyC Try.prog 34) [1, 1, 0, 1, 0, 0, 1, 1, 0, 0, 1, 0]) 8) [e_GApiValue x6_2, e_GApiValue x6_6] (aB (!(decide (x6_2.Kind = x6_6.Kind) && (decide (x6_2.N = x6_6.N) && (decide (x6_2.Re = x6_6.Re) && decide (x6_2.Im = x6_6.Im)))))) from eqA_ob (P := Try.prog) (ne := true) (xs := [.int .u8 x6_2.Kind, .int .i64 x6_2.N, .int .i64 x6_2.Re, .int .i64 x6_2.Im]) (ys := [.int .u8 x6_6.Kind, .int .i64 x6_6.N, .int .i64 x6_6.Re, .int .i64 x6_6.Im]) (hh := none) ⟨_, by rfl⟩ (by kernel_rfl) (by kernel_rfl)) aN))) ?_
 refine W_cbn h (by kernel_rfl) (fun hx1002 h => ?_) (fun hx1002 h => ?_)
 refine W_skip ?_
 refine We [(13, aI .i64 (w64 (v0_13_0 + 1)))] [24] [] [] [q_, q_] aN ?_
 exact ⟨m, ((w64 (v0_13_0 + 1))), Nat.le_refl _, ⟨Nat.le_of_lt hlt, h⟩, cvf (c0 [0, 1, 12, 13])⟩
 refine Wd [(4, aB false)] [0, 1, 12, 13, 24] [] [] [q_] aN ?_
 refine W_ret ?_
 exact kre kr [] h
 refine W_exit ?_
 exact k_x_0 m hlt _ h (cvf (c0 []))
theorem r11_SameValues_j1_ok (n : Nat)   (r_ : Bool) (Q' : Exit → St → Prop) (kr : KR Try.prog 34 r11_SameValues_e r_ .ret Q')  (h : recN r11_SameValues_B n (.j1 ) = some r_) : W Try.prog (subC (bodyC Try.prog 34) [1, 1, 1]) (r11_SameValues_j1_s ).st Q' := by
 rcases n with _ | m
 cases h
 have hlt := Nat.lt_succ_self m
 replace h : r11_SameValues_j1_b (recN r11_SameValues_B m)  = some r_ := h
 unfold r11_SameValues_j1_b at h
 refine Wd [(4, aB true)] [] [] [] [q_] aN ?_
 refine W_ret ?_
 exact kre kr [] h
noncomputable def r11_SameValues (a0 : (List GApiValue)) (a1 : (List GApiValue)) : Option Bool :=
  (if (a0.length : Int) = (a1.length : Int) then r11_SameValues_l0 a0 a1 0 else (some false))
theorem r11_SameValues_ok {a0 : (List GApiValue)} {a1 : (List GApiValue)} {r_ : Bool} (h : r11_SameValues a0 a1 = some r_) : R_r11_SameValues a0 a1 r_ := by
 unfold r11_SameValues at h
 refine fn_pureZ (enc := r11_SameValues_e) (by kernel_rfl) fun Q' kr kn => ?_
 refine Wd [] [] [] [] [q_] aN ?_
 refine W_seq ?_
 refine Wd [(10, aB (!(decide ((a0.length : Int) = (a1.length : Int)))))] [] [] [] [q_, qn (.len a0.length), q_, qn (.len a1.length), q_] (aC (len_obx c_GApiValue a0) (aC (len_obx c_GApiValue a1) aN)) ?_
 refine W_cdn h (by kernel_rfl) (fun hx1 h => ?_) (fun hx1 h => ?_)
 refine W_skip ?_
 refine W_seq ?_
 refine Wd [(12, aI .i64 (a0.length : Int)), (13, aI .i64 0)] [10] [] [] [q_, qn (.len a0.length), q_] (aC (len_obx c_GApiValue a0) aN) ?_
 refine W_block ?_
 obtain ⟨n, h⟩ := fix_rec h
 exact Wc (c0 [0, 1, 12, 13]) (r11_SameValues_l0_ok n a0 a1 0 r_ _ kr (fun q1 hq1 s' h hf => W_pre hf (r11_SameValues_j1_ok q1 r_ _ kr h)) h)
 refine Wd [(4, aB false)] [0, 1, 10] [] [] [q_] aN ?_
 refine W_ret ?_
 exact kre kr [] h
def R_r11_Same (a0 : (List GApiObj)) (a1 : (List GApiObj)) (r : Bool) : Prop := FnP Try.prog 15 [.t (.sl 4 (a0.map c_GApiObj)), .t (.sl 4 (a1.map c_GApiObj))] (aB r)
inductive r11_Same_C where
  | l0 (a0 : (List GApiObj)) (a1 : (List GApiObj)) (v0_13_0 : Int)
  | j1
abbrev r11_Same_C_T : r11_Same_C → Type := fun _ => Bool
noncomputable def r11_Same_l0_b (g : (i : r11_Same_C) → Option (r11_Same_C_T i)) (a0 : (List GApiObj)) (a1 : (List GApiObj)) (v0_13_0 : Int) : Option Bool :=
  (if v0_13_0 < (a0.length : Int) then ((getI a0 v0_13_0).bind fun (x6_2 : GApiObj) => ((getI a1 v0_13_0).bind fun (x6_7 : GApiObj) => (if x6_2.Kind = x6_7.Kind then (if x6_2.Of = x6_7.Of then (if x6_2.Text = x6_7.Text then ((r11_SameValues x6_2.Vals x6_7.Vals).bind fun (r6_48 : Bool) => (if r6_48 = true then g (.l0 a0 a1 (w64 (v0_13_0 + 1))) else (some false))) else (some false)) else (some false)) else (some false)))) else g (.j1))
noncomputable def r11_Same_j1_b (g : (i : r11_Same_C) → Option (r11_Same_C_T i))  : Option Bool :=
  (some true)
noncomputable def r11_Same_B (g : (i : r11_Same_C) → Option (r11_Same_C_T i)) : (i : r11_Same_C) → Option (r11_Same_C_T i)
  | .l0 a0 a1 v0_13_0 => r11_Same_l0_b g a0 a1 v0_13_0
  | .j1  => r11_Same_j1_b g
theorem r11_Same_B_fin (i : r11_Same_C) : Fin1 (fun g => r11_Same_B g i) := by
 cases i
 all_goals (delta r11_Same_B; dsimp only)
 unfold r11_Same_l0_b; rotate_left
 unfold r11_Same_j1_b; rotate_left
 all_goals repeat (first | refine fin_bind ?_ (fun _ => ?_) | refine fin_ite ?_ ?_ | refine fin_opt ?_ (fun _ => ?_) | exact fin_ask _ | exact fin_const _)
noncomputable def r11_Same_l0 (a0 : (List GApiObj)) (a1 : (List GApiObj)) (v0_13_0 : Int) : Option Bool := fixD r11_Same_B (.l0 a0 a1 v0_13_0)
noncomputable def r11_Same_j1  : Option Bool := fixD r11_Same_B (.j1 )
theorem r11_Same_l0_eq (a0 : (List GApiObj)) (a1 : (List GApiObj)) (v0_13_0 : Int) : r11_Same_l0 a0 a1 v0_13_0 =
  (if v0_13_0 < (a0.length : Int) then ((getI a0 v0_13_0).bind fun (x6_2 : GApiObj) => ((getI a1 v0_13_0).bind fun (x6_7 : GApiObj) => (if x6_2.Kind = x6_7.Kind then (if x6_2.Of = x6_7.Of then (if x6_2.Text = x6_7.Text then ((r11_SameValues x6_2.Vals x6_7.Vals).bind fun (r6_48 : Bool) => (if r6_48 = true then r11_Same_l0 a0 a1 (w64 (v0_13_0 + 1)) else (some false))) else (some false)) else (some false)) else (some false)))) else r11_Same_j1) := fix_eq r11_Same_B_fin _
theorem r11_Same_j1_eq  : r11_Same_j1  =
  (some true) := fix_eq r11_Same_B_fin _
abbrev r11_Same_e (x : Bool) : A := (aB x)
def r11_Same_l0_s (a0 : (List GApiObj)) (a1 : (List GApiObj)) (v0_13_0 : Int) : LS := LS.mk 68 [(0, .t (.sl 4 (a0.map c_GApiObj))), (1, .t (.sl 4 (a1.map c_GApiObj))), (12, aI .i64 (a0.length : Int)), (13, aI .i64 v0_13_0)] []
def r11_Same_j1_s  : LS := LS.mk 68 [] []
theorem r11_Same_l0_ok (n : Nat)  (a0 : (List GApiObj)) (a1 : (List GApiObj)) (v0_13_0 : Int) (r_ : Bool) (Q' : Exit → St → Prop) (kr : KR Try.prog 15 r11_Same_e r_ .ret Q') (k_x_0 : KX r11_Same_B n (.j1 ) r_ (r11_Same_j1_s ) (.exit 0) Q') (h : recN r11_Same_B n (.l0 a0 a1 v0_13_0) = some r_) : W Try.prog (subC (bodyC Try.prog 15) [1, 1, 0, 1, 0]) (r11_Same_l0_s a0 a1 v0_13_0).st Q' := by
 refine W_fix (σ := Int) (fun m x_ => m ≤ n ∧ recN r11_Same_B m (.l0 a0 a1 x_) = some r_) (fun x_ => r11_Same_l0_s a0 a1 x_) (fun x hx => by cases hx.2) (fun _ _ => rfl) ?_ n (v0_13_0) ⟨Nat.le_refl _, h⟩
 clear h
 rintro m v0_13_0 ⟨hlt, h⟩
 replace h : r11_Same_l0_b (recN r11_Same_B m) a0 a1 v0_13_0 = some r_ := h
 unfold r11_Same_l0_b at h
 refine Wd [(14, aB (decide (v0_13_0 < (a0.length : Int))))] [] [] [] [q_] aN ?_
 refine W_seq ?_
 refine W_cd h (by kernel_rfl) (fun hx1001 h => ?_) (fun hx1001 h => ?_)
 refine W_skip ?_
 refine W_seq ?_
 refine W_block ?_
 refine Wd [(5, aI .i64 v0_13_0)] [14] [] [] [q_, q_] aN ?_
 obtain ⟨x6_2, hx6_2, h⟩ := bind_ok h
 obtain ⟨x6_7, hx6_7, h⟩ := bind_ok h
 refine if_c h (fun hx1002 h => ?_) (fun hx1002 h => ?_)
 refine if_c h (fun hx1003 h => ?_) (fun hx1003 h => ?_)
 refine if_c h (fun hx1004 h => ?_) (fun hx1004 h => ?_)
 obtain ⟨r6_48, hr6_48, h⟩ := bindk r11_SameValues_ok h
 refine Wd [(66, aB (!r6_48))] [5] [] [] [q_, q_, qn (.ix (Int.toNat v0_13_0) (c_GApiObj x6_2)), q_, q_, q_, q_, qn (.ix (Int.toNat v0_13_0) (c_GApiObj x6_7)), q_, q_, q_, q_, qf0, qf0, qf (.ix (Int.toNat v0_13_0) (c_GApiObj x6_2)), qf0, qf0, qf0, qf0, qf (.ix (Int.toNat v0_13_0) (c_GApiObj x6_7)), qf0, qf0, qf0, qn (.dec false), q_, qf0, qf0, qf (.ix (Int.toNat v0_13_0) (c_GApiObj x6_2)), qf0, qf0, qf0, qf0, qf (.ix (Int.toNat v0_13_0) (c_GApiObj x6_7)), qf0, qf0, qf (.val (.bool (!(decide (x6_2.Text = x6_7.Text))))), qn (.dec false), q_, qf0, qf0, qf (.ix (Int.toNat v0_13_0) (c_GApiObj x6_2)), qf0, qf0, qf0, qf0, qf (.ix (Int.toNat v0_13_0) (c_GApiObj x6_7)), qf0, qf0, qf (.call [] (aB r6_48)), qf0, qn (.dec false)] (aC (ix_obx c_GApiObj hx6_2) (aC (ix_obx c_GApiObj hx6_7) (aC (not_t hx1002) (aC (not_t hx1002) (aC (not_t hx1002) (aC (ix_obx c_GApiObj hx6_2) (aC (not_t hx1002) (aC (not_t hx1002) (aC (not_t hx1002) (aC (not_t hx1002) (aC (not_t hx1002) (aC (ix_obx c_GApiObj hx6_7) (aC (not_t hx1002) (aC (not_t hx1002) (aC (not_t hx1002) (aC (not_t hx1002) (aC (not_t hx1003) (aC (not_t hx1003) (aC (not_t hx1003) (aC (ix_obx c_GApiObj hx6_2) (aC (not_t hx1003) (aC (not_t hx1003) (aC (not_t hx1003) (aC (not_t hx1003) (aC (not_t hx1003) (aC (ix_obx c_GApiObj hx6_7) (aC (not_t hx1003) (aC (not_t hx1003) (aC (not_t hx1003) (aC (str_ne_ob (P := Try.prog) 9 x6_2.Text x6_7.Text) (aC (not_t hx1003) (aC (not_t hx1004) (aC (not_t hx1004) (aC (not_t hx1004) (aC (ix_obx c_GApiObj hx6_2) (aC (not_t hx1004) (aC (not_t hx1004) (aC (not_t hx1004) (aC (not_t hx1004) (aC (not_t hx1004) (aC (ix_obx c_GApiObj hx6_7) (aC (not_t hx1004) (aC (not_t hx1004) (aC (not_t hx1004) (aC hr6_48 (aC (not_t hx1004) (aC (not_t hx1004) aN))))))))))))))))))))))))))))))))))))))))))))))) ?_
 refine W_cbn h (by kernel_rfl) (fun hx1005 h => ?_) (fun hx1005 h => ?_)
 refine W_skip ?_
 refine We [(13, aI .i64 (w64 (v0_13_0 + 1)))] [66] [] [] [q_, q_] aN ?_
 exact ⟨m, ((w64 (v0_13_0 + 1))), Nat.le_refl _, ⟨Nat.le_of_lt hlt, h⟩, cvf (c0 [0, 1, 12, 13])⟩
 refine Wd [(4, aB false)] [0, 1, 12, 13, 66] [] [] [q_] aN ?_
 refine W_ret ?_
 exact kre kr [] h
 refine Wd [(66, aB true)] [5] [] [] [q_, q_, qn (.ix (Int.toNat v0_13_0) (c_GApiObj x6_2)), q_, q_, q_, q_, qn (.ix (Int.toNat v0_13_0) (c_GApiObj x6_7)), q_, q_, q_, q_, qf0, qf0, qf (.ix (Int.toNat v0_13_0) (c_GApiObj x6_2)), qf0, qf0, qf0, qf0, qf (.ix (Int.toNat v0_13_0) (c_GApiObj x6_7)), qf0, qf0, qf0, qn (.dec false), q_, qf0, qf0, qf (.ix (Int.toNat v0_13_0) (c_GApiObj x6_2)), qf0, qf0, qf0, qf0, qf (.ix (Int.toNat v0_13_0) (c_GApiObj x6_7)), qf0, qf0, qf (.val (.bool (!(decide (x6_2.Text = x6_7.Text))))), qn (.dec false), q_, qt0, qt0, qt0, qt0, qt0, qt0, qt0, qt0, qt0, qt0, qt0, qt0, qn (.dec true)] (aC (ix_obx c_GApiObj hx6_2) (aC (ix_obx c_GApiObj hx6_7) (aC (not_t hx1002) (aC (not_t hx1002) (aC (not_t hx1002) (aC (ix_obx c_GApiObj hx6_2) (aC (not_t hx1002) (aC (not_t hx1002) (aC (not_t hx1002) (aC (not_t hx1002) (aC (not_t hx1002) (aC (ix_obx c_GApiObj hx6_7) (aC (not_t hx1002) (aC (not_t hx1002) (aC (not_t hx1002) (aC (not_t hx1002) (aC (not_t hx1003) (aC (not_t hx1003) (aC (not_t hx1003) (aC (ix_obx c_GApiObj hx6_2) (aC (not_t hx1003) (aC (not_t hx1003) (aC (not_t hx1003) (aC (not_t hx1003) (aC (not_t hx1003) (aC (ix_obx c_GApiObj hx6_7) (aC (not_t hx1003) (aC (not_t hx1003) (aC (not_t hx1003) (aC (str_ne_ob (P := Try.prog) 9 x6_2.Text x6_7.Text) (aC (not_t hx1003) (aC (not_f hx1004) (aC (not_f hx1004) (aC (not_f hx1004) (aC (not_f hx1004) (aC (not_f hx1004) (aC (not_f hx1004) (aC (not_f hx1004) (aC (not_f hx1004) (aC (not_f hx1004) (aC (not_f hx1004) (aC (not_f hx1004) (aC (not_f hx1004) (aC (not_f hx1004) aN)))))))))))))))))))))))))))))))))))))))))))) ?_
 refine W_ct (e := true) rfl (by kernel_rfl) ?_
 refine Wd [(4, aB false)] [0, 1, 12, 13, 66] [] [] [q_] aN ?_
 refine W_ret ?_
 exact kre kr [] h
 refine Wd [(66, aB true)] [5] [] [] (q_ :: q_ :: qn (.ix (Int.toNat v0_13_0) (c_GApiObj x6_2)) :: q_ :: q_ :: q_ :: q_ :: qn (.ix (Int.toNat v0_13_0) (c_GApiObj x6_7)) :: q_ :: q_ :: q_ :: q_ :: qf0 :: qf0 :: qf (.ix (Int.toNat v0_13_0) (c_GApiObj x6_2)) :: qf0 :: qf0 :: qf0 :: qf0 :: qf (.ix (Int.toNat v0_13_0) (c_GApiObj x6_7)) :: qf0 :: qf0 :: qf0 :: qn (.dec false) :: q_ :: qt0 :: qt0 :: qt0 :: qt0 :: qt0 :: qt0 :: qt0 :: qt0 :: qt0 :: qt0 :: qt0 :: qn (.dec true) :: (qz 14 [])) (aC (ix_obx c_GApiObj hx6_2) (aC (ix_obx c_GApiObj hx6_7) (aC (not_t hx1002) (aC (not_t hx1002) (aC (not_t hx1002) (aC (ix_obx c_GApiObj hx6_2) (aC (not_t hx1002) (aC (not_t hx1002) (aC (not_t hx1002) (aC (not_t hx1002) (aC (not_t hx1002) (aC (ix_obx c_GApiObj hx6_7) (aC (not_t hx1002) (aC (not_t hx1002) (aC (not_t hx1002) (aC (not_t hx1002) (aC (not_f hx1003) (aC (not_f hx1003) (aC (not_f hx1003) (aC (not_f hx1003) (aC (not_f hx1003) (aC (not_f hx1003) (aC (not_f hx1003) (aC (not_f hx1003) (aC (not_f hx1003) (aC (not_f hx1003) (aC (not_f hx1003) (aC (not_f hx1003) aN)))))))))))))))))))))))))))) ?_
 refine W_ct (e := true) rfl (by kernel_rfl) ?_
 refine Wd [(4, aB false)] [0, 1, 12, 13, 66] [] [] [q_] aN ?_
 refine W_ret ?_
 exact kre kr [] h
 refine Wd [(66, aB true)] [5] [] [] (q_ :: q_ :: qn (.ix (Int.toNat v0_13_0) (c_GApiObj x6_2)) :: q_ :: q_ :: q_ :: q_ :: qn (.ix (Int.toNat v0_13_0) (c_GApiObj x6_7)) :: q_ :: q_ :: q_ :: q_ :: qt0 :: qt0 :: qt0 :: qt0 :: qt0 :: qt0 :: qt0 :: qt0 :: qt0 :: qt0 :: qt0 :: qn (.dec true) :: (qz 27 [])) (aC (ix_obx c_GApiObj hx6_2) (aC (ix_obx c_GApiObj hx6_7) (aC (not_f hx1002) (aC (not_f hx1002) (aC (not_f hx1002) (aC (not_f hx1002) (aC (not_f hx1002) (aC (not_f hx1002) (aC (not_f hx1002) (aC (not_f hx1002) (aC (not_f hx1002) (aC (not_f hx1002) (aC (not_f hx1002) (aC (not_f hx1002) aN)))))))))))))) ?_
 refine W_ct (e := true) rfl (by kernel_rfl) ?_
 refine Wd [(4, aB false)] [0, 1, 12, 13, 66] [] [] [q_] aN ?_
 refine W_ret ?_
 exact kre kr [] h
 refine W_exit ?_
 exact k_x_0 m hlt _ h (cvf (c0 []))
theorem r11_Same_j1_ok (n : Nat)   (r_ : Bool) (Q' : Exit → St → Prop) (kr : KR Try.prog 15 r11_Same_e r_ .ret Q')  (h : recN r11_Same_B n (.j1 ) = some r_) : W Try.prog (subC (bodyC Try.prog 15) [1, 1, 1]) (r11_Same_j1_s ).st Q' := by
 rcases n with _ | m
 cases h
 have hlt := Nat.lt_succ_self m
 replace h : r11_Same_j1_b (recN r11_Same_B m)  = some r_ := h
 unfold r11_Same_j1_b at h
 refine Wd [(4, aB true)] [] [] [] [q_] aN ?_
 refine W_ret ?_
 exact kre kr [] h
noncomputable def r11_Same (a0 : (List GApiObj)) (a1 : (List GApiObj)) : Option Bool :=
  (if (a0.length : Int) = (a1.length : Int) then r11_Same_l0 a0 a1 0 else (some false))
theorem r11_Same_ok {a0 : (List GApiObj)} {a1 : (List GApiObj)} {r_ : Bool} (h : r11_Same a0 a1 = some r_) : R_r11_Same a0 a1 r_ := by
 unfold r11_Same at h
 refine fn_pureZ (enc := r11_Same_e) (by kernel_rfl) fun Q' kr kn => ?_
 refine Wd [] [] [] [] [q_] aN ?_
 refine W_seq ?_
 refine Wd [(10, aB (!(decide ((a0.length : Int) = (a1.length : Int)))))] [] [] [] [q_, qn (.len a0.length), q_, qn (.len a1.length), q_] (aC (len_obx c_GApiObj a0) (aC (len_obx c_GApiObj a1) aN)) ?_
 refine W_cdn h (by kernel_rfl) (fun hx1 h => ?_) (fun hx1 h => ?_)
 refine W_skip ?_
 refine W_seq ?_
 refine Wd [(12, aI .i64 (a0.length : Int)), (13, aI .i64 0)] [10] [] [] [q_, qn (.len a0.length), q_] (aC (len_obx c_GApiObj a0) aN) ?_
 refine W_block ?_
 obtain ⟨n, h⟩ := fix_rec h
 exact Wc (c0 [0, 1, 12, 13]) (r11_Same_l0_ok n a0 a1 0 r_ _ kr (fun q1 hq1 s' h hf => W_pre hf (r11_Same_j1_ok q1 r_ _ kr h)) h)
 refine Wd [(4, aB false)] [0, 1, 10] [] [] [q_] aN ?_
 refine W_ret ?_
 exact kre kr [] h
inductive l11_great_C where
  | l0 (a0 : (List GL11Op)) (v0_3_0 : Int)
  | j1
def R_r11_Cost (a0 : GApiObj) (r : Int) : Prop := FnP Try.prog 21 [e_GApiObj a0] (aI .i64 r)
abbrev r11_Cost_e (x : Int) : A := (aI .i64 x)
noncomputable def r11_Cost (a0 : GApiObj) : Option Int :=
  (if a0.Kind = 3 then (if (Int.tmod (a0.Text.length : Int) 8) > 0 then (some (w64 ((w64 ((w64 (Int.tdiv (a0.Text.length : Int) 8)) + 1)) + 1))) else (some (w64 ((w64 (Int.tdiv (a0.Text.length : Int) 8)) + 1)))) else (some (w64 ((a0.Vals.length : Int) + 1))))
theorem r11_Cost_ok {a0 : GApiObj} {r_ : Int} (h : r11_Cost a0 = some r_) : R_r11_Cost a0 r_ := by
 unfold r11_Cost at h
 refine fn_pureZ (enc := r11_Cost_e) (by kernel_rfl) fun Q' kr kn => ?_
 refine Wd [(1, .ptr 1 0)] [0] [(1, .box 27 (b_GApiObj a0))] [] [q_, q_] aN ?_
 refine W_seq ?_
 refine Wd [(6, aB (decide (a0.Kind = 3)))] [] [] [] [q_, q_, q_] aN ?_
 refine W_cd h (by kernel_rfl) (fun hx1 h => ?_) (fun hx1 h => ?_)
 refine Wd [(3, aI .i64 (w64 (Int.tdiv (a0.Text.length : Int) 8)))] [6] [] [] (qz 5 []) aN ?_
 refine W_seq ?_
 refine Wd [(15, aB (decide ((Int.tmod (a0.Text.length : Int) 8) > 0)))] [1] [] [1] (qz 5 []) aN ?_
 refine W_cd h (by kernel_rfl) (fun hx2 h => ?_) (fun hx2 h => ?_)
 refine We [(3, aI .i64 (w64 ((w64 (Int.tdiv (a0.Text.length : Int) 8)) + 1)))] [15] [] [] [q_, q_, q_] aN ?_
 refine Wd [(2, aI .i64 (w64 ((w64 ((w64 (Int.tdiv (a0.Text.length : Int) 8)) + 1)) + 1)))] [3] [] [] [q_, q_, q_] aN ?_
 refine W_ret ?_
 exact kre kr [] h
 refine W_skip ?_
 refine Wd [(2, aI .i64 (w64 ((w64 (Int.tdiv (a0.Text.length : Int) 8)) + 1)))] [3, 15] [] [] [q_, q_, q_] aN ?_
 refine W_ret ?_
 exact kre kr [] h
 refine W_skip ?_
 refine Wd [(2, aI .i64 (w64 ((a0.Vals.length : Int) + 1)))] [1, 6] [] [1] [q_, q_, qn (.len a0.Vals.length), q_, q_] (aC (len_obx c_GApiValue a0.Vals) aN) ?_
 refine W_ret ?_
 exact kre kr [] h
inductive r11_H_List_C where
  | l0 (a1 : Int) (a2 : Int) (v0_12_0 : Int) (a0 : GR11H) (a3 : GApiValue) (w0_1011 : (List GApiValue))
  | j1 (a1 : Int) (a0 : GR11H) (w0_1011 : (List GApiValue))
inductive l11_HeapPlays_C where
  | l0 (a1 : (List GL11Op)) (v0_8_0 : Int) (b0_7 : GR11H) (o0_1005 : GHeapHeap)
  | j1 (b0_7 : GR11H) (o0_1005 : GHeapHeap)
end Go.Proofs.Ytblikpgdepjhdaa
