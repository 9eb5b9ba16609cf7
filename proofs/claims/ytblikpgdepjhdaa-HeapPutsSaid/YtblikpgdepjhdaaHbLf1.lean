/- Parts of the proof. -/
import Derived.Test.YtblikpgdepjhdaaHbHpLoad2
import Derived.Test.YtblikpgdepjhdaaHbHpCopy
namespace Go.Proofs.Ytblikpgdepjhdaa
open Go.RowKit
set_option linter.unusedVariables false
set_option maxRecDepth 100000
set_option maxHeartbeats 4000000
def bo0 (b : Nat) (x : GApiObj) : List A := [aI .u8 x.Kind, aI .i64 x.Of, aS x.Text, .ref (b + 3)]
def R_l11_awake  (r : Bool) : Prop := FnP Try.prog 10 [] (aB r)
abbrev l11_awake_e (x : Bool) : A := (aB x)
noncomputable def l11_awake  : Option Bool :=
  ((xheap_New 3).bind fun (r1_0 : ((Option GHeapHeap) × Int)) => optCase r1_0.1 (some false) fun (y1_0 : GHeapHeap) => (if r1_0.2 = 0 then ((xheap_Heap_Str y1_0 ([110, 105, 110, 101, 98, 121, 116, 101, 115] : List UInt8)).bind fun (r4_1 : (GApiValue × Bool × GHeapHeap)) => ((xheap_Heap_List r4_1.2.2 1 0 (GApiValue.mk 1 0 0 0)).bind fun (r5_2 : (GApiValue × Bool × GHeapHeap)) => ((xheap_Heap_Size r5_2.2.2 r4_1.1).bind fun (r6_2 : (Int × Int)) => (if r4_1.2.1 = true then (if r5_2.2.1 = true then (some false) else (if r6_2.1 = 9 then (if r6_2.2 = 0 then ((xheap_Heap_Cells r5_2.2.2).bind fun (r7_15 : Int) => (some (decide (r7_15 = 3)))) else (some false)) else (some false))) else (some false))))) else (some false)))
theorem l11_awake_ok  {r_ : Bool} (h : l11_awake  = some r_) : R_l11_awake  r_ := by
 unfold l11_awake at h
 refine fn_pureZ (enc := l11_awake_e) (by kernel_rfl) fun Q' kr kn => ?_
 refine Wd [] [] [] [] [q_] aN ?_
 obtain ⟨r1_0, hr1_0, h⟩ := bindk xheap_New_ok h
 unfold RI_heap_New at hr1_0
 rcases hc_y1_0 : r1_0.1 with _ | y1_0
 rw [hc_y1_0] at hr1_0
 have h := oc_nx hc_y1_0 h
 refine Wd [(1, aPnil), (2, aI .i64 r1_0.2)] [] [] [] [qn (.io ⟨[], [], [], [], [], [], []⟩ (.tup [aPnil, aI .i64 r1_0.2]) []), q_, q_, q_, q_, q_] (aC hr1_0 aN) ?_
 refine W_seq ?_
 refine Wd [(18, aB true)] [2] [] [] (qz 6 []) aN ?_
 refine W_ct (e := true) rfl (by kernel_rfl) ?_
 refine Wd [(0, aB false)] [1, 18] [] [] [q_] aN ?_
 refine W_ret ?_
 exact kre kr [] h
 rw [hc_y1_0] at hr1_0
 have h := oc_sx hc_y1_0 h
 refine Wz [(1, .ob 1001), (2, aI .i64 r1_0.2)] [] [(1001, some (.obj (.any (rep_GHeapHeap y1_0))))] (cG [] [] [] [(10, 1001)] [] []) [qn (.io ⟨[], [], [], [], [], [], [(700000, 10)]⟩ (.tup [.ob 700000, aI .i64 r1_0.2]) [(700000, .obj (.any (rep_GHeapHeap y1_0)))]), q_, q_, q_, q_, q_] (aC hr1_0 aN) ?_
 refine W_seq ?_
 refine Wd [(18, aB (!(decide (r1_0.2 = 0))))] [2] [] [] (qz 6 []) aN ?_
 refine W_cdn h (by kernel_rfl) (fun hx1 h => ?_) (fun hx1 h => ?_)
 refine W_skip ?_
 obtain ⟨r4_1, hr4_1, h⟩ := bindk xheap_Heap_Str_ok h
 refine Wd [(3, .ptr 3 0), (4, aB r4_1.2.1)] [18] [(3, .box 46 (b_GApiValue r4_1.1)), (1001, .obj (.any (rep_GHeapHeap r4_1.2.2)))] [] (q_ :: qn (.io ⟨[], [(1001, 900)], [], [], [], [], [(900, 1001)]⟩ (.tup [e_GApiValue r4_1.1, aB r4_1.2.1]) [(900, .obj (.any (rep_GHeapHeap r4_1.2.2)))]) :: (qz 6 [])) (aC hr4_1 aN) ?_
 obtain ⟨r5_2, hr5_2, h⟩ := bindk xheap_Heap_List_ok h
 refine Wd [(6, aB r5_2.2.1)] [] [(1001, .obj (.any (rep_GHeapHeap r5_2.2.2)))] [] (q_ :: q_ :: qn (.io ⟨[], [(1001, 900)], [], [], [], [], [(900, 1001)]⟩ (.tup [e_GApiValue r5_2.1, aB r5_2.2.1]) [(900, .obj (.any (rep_GHeapHeap r5_2.2.2)))]) :: (qz 6 [])) (aC hr5_2 aN) ?_
 obtain ⟨r6_2, hr6_2, h⟩ := bindk xheap_Heap_Size_ok h
 refine Wd [(7, aI .i64 r6_2.1), (8, aI .u8 r6_2.2)] [3] [] [3] [q_, q_, qn (.io ⟨[], [(1001, 900)], [], [], [], [], [(900, 1001)]⟩ (.tup [aI .i64 r6_2.1, aI .u8 r6_2.2]) [(900, .obj (.any (rep_GHeapHeap r5_2.2.2)))]), q_, q_, q_, q_, q_] (aC hr6_2 aN) ?_
 refine ib_c h (fun hx2 h => ?_) (fun hx2 h => ?_)
 refine ib_c h (fun hx3 h => ?_) (fun hx3 h => ?_)
 refine Wd [(0, aB false)] [1, 4, 6, 7, 8] [] [1001] (q_ :: q_ :: qt0 :: qt0 :: qn (.dec true) :: q_ :: qf0 :: qf0 :: qn (.dec false) :: (qz 10 [])) (aC hx2 (aC hx2 (aC hx2 (aC (not_t hx3) (aC (not_t hx3) (aC (not_t hx3) aN)))))) ?_
 refine W_ret ?_
 exact kre kr [] h
 refine if_c h (fun hx4 h => ?_) (fun hx4 h => ?_)
 refine if_c h (fun hx5 h => ?_) (fun hx5 h => ?_)
 obtain ⟨r7_15, hr7_15, h⟩ := bindk xheap_Heap_Cells_ok h
 refine Wd [(0, aB (decide (r7_15 = 3)))] [1, 4, 6, 7, 8] [] [1001] [q_, q_, qt0, qt0, qn (.dec true), q_, qt0, qt0, qn (.dec true), q_, qt0, qt0, qn (.dec true), q_, qt0, qt (.io ⟨[], [(1001, 900)], [], [], [], [], [(900, 1001)]⟩ (aI .i64 r7_15) [(900, .obj (.any (rep_GHeapHeap r5_2.2.2)))]), qt0, qn (.dec true), q_] (aC hx2 (aC hx2 (aC hx2 (aC (not_f hx3) (aC (not_f hx3) (aC (not_f hx3) (aC hx4 (aC hx4 (aC hx4 (aC hx5 (aC hx5 (aC hr7_15 (aC hx5 (aC hx5 aN)))))))))))))) ?_
 refine W_ret ?_
 exact kre kr [] h
 refine Wd [(0, aB false)] [1, 4, 6, 7, 8] [] [1001] [q_, q_, qt0, qt0, qn (.dec true), q_, qt0, qt0, qn (.dec true), q_, qt0, qt0, qn (.dec true), q_, qf0, qf0, qf0, qn (.dec false), q_] (aC hx2 (aC hx2 (aC hx2 (aC (not_f hx3) (aC (not_f hx3) (aC (not_f hx3) (aC hx4 (aC hx4 (aC hx4 (aC hx5 (aC hx5 (aC hx5 (aC hx5 aN))))))))))))) ?_
 refine W_ret ?_
 exact kre kr [] h
 refine Wd [(0, aB false)] [1, 4, 6, 7, 8] [] [1001] (q_ :: q_ :: qt0 :: qt0 :: qn (.dec true) :: q_ :: qt0 :: qt0 :: qn (.dec true) :: q_ :: qf0 :: qf0 :: qn (.dec false) :: (qz 6 [])) (aC hx2 (aC hx2 (aC hx2 (aC (not_f hx3) (aC (not_f hx3) (aC (not_f hx3) (aC hx4 (aC hx4 (aC hx4 aN))))))))) ?_
 refine W_ret ?_
 exact kre kr [] h
 refine Wd [(0, aB false)] [1, 4, 6, 7, 8] [] [1001] (q_ :: q_ :: qf0 :: qf0 :: qn (.dec false) :: (qz 14 [])) (aC hx2 (aC hx2 (aC hx2 aN))) ?_
 refine W_ret ?_
 exact kre kr [] h
 refine Wd [(0, aB false)] [1, 18] [] [1001] [q_] aN ?_
 refine W_ret ?_
 exact kre kr [] h
def R_r11_SameValues (a0 : (List GApiValue)) (a1 : (List GApiValue)) (r : Bool) : Prop := FnP Try.prog 34 [.t (.sl 4 (a0.map c_GApiValue)), .t (.sl 4 (a1.map c_GApiValue))] (aB r)
inductive r11_SameValues_C where
  | l0 (a0 : (List GApiValue)) (a1 : (List GApiValue)) (v0_13_0 : Int)
  | j1
abbrev r11_SameValues_C_T : r11_SameValues_C → Type := fun _ => Bool
noncomputable def r11_SameValues_l0_b (g : (i : r11_SameValues_C) → Option (r11_SameValues_C_T i)) (a0 : (List GApiValue)) (a1 : (List GApiValue)) (v0_13_0 : Int) : Option Bool :=
  (if v0_13_0 < (a0.length : Int) then ((getI a0 v0_13_0).bind fun (x6_2 : GApiValue) => ((getI a1 v0_13_0).bind fun (x6_6 : GApiValue) => (if (decide (x6_2.Kind = x6_6.Kind) && (decide (x6_2.N = x6_6.N) && (decide (x6_2.Re = x6_6.Re) && decide (x6_2.Im = x6_6.Im)))) = true then g (.l0 a0 a1 (w64 (v0_13_0 + 1))) else (some false)))) else g (.j1))
noncomputable def r11_SameValues_j1_b (g : (i : r11_SameValues_C) → Option (r11_SameValues_C_T i))  : Option Bool :=
  (some true)
noncomputable def r11_SameValues_B (g : (i : r11_SameValues_C) → Option (r11_SameValues_C_T i)) : (i : r11_SameValues_C) → Option (r11_SameValues_C_T i)
  | .l0 a0 a1 v0_13_0 => r11_SameValues_l0_b g a0 a1 v0_13_0
  | .j1  => r11_SameValues_j1_b g
theorem r11_SameValues_B_fin (i : r11_SameValues_C) : Fin1 (fun g => r11_SameValues_B g i) := by
 cases i
 all_goals (delta r11_SameValues_B; dsimp only)
 unfold r11_SameValues_l0_b; rotate_left
 unfold r11_SameValues_j1_b; rotate_left
 all_goals repeat (first | refine fin_bind ?_ (fun _ => ?_) | refine fin_ite ?_ ?_ | refine fin_opt ?_ (fun _ => ?_) | exact fin_ask _ | exact fin_const _)
noncomputable def r11_SameValues_l0 (a0 : (List GApiValue)) (a1 : (List GApiValue)) (v0_13_0 : Int) : Option Bool := fixD r11_SameValues_B (.l0 a0 a1 v0_13_0)
noncomputable def r11_SameValues_j1  : Option Bool := fixD r11_SameValues_B (.j1 )
theorem r11_SameValues_l0_eq (a0 : (List GApiValue)) (a1 : (List GApiValue)) (v0_13_0 : Int) : r11_SameValues_l0 a0 a1 v0_13_0 =
  (if v0_13_0 < (a0.length : Int) then ((getI a0 v0_13_0).bind fun (x6_2 : GApiValue) => ((getI a1 v0_13_0).bind fun (x6_6 : GApiValue) => (if (decide (x6_2.Kind = x6_6.Kind) && (decide (x6_2.N = x6_6.N) && (decide (x6_2.Re = x6_6.Re) && decide (x6_2.Im = x6_6.Im)))) = true then r11_SameValues_l0 a0 a1 (w64 (v0_13_0 + 1)) else (some false)))) else r11_SameValues_j1) := fix_eq r11_SameValues_B_fin _
theorem r11_SameValues_j1_eq  : r11_SameValues_j1  =
  (some true) := fix_eq r11_SameValues_B_fin _
abbrev r11_SameValues_e (x : Bool) : A := (aB x)
def r11_SameValues_l0_s (a0 : (List GApiValue)) (a1 : (List GApiValue)) (v0_13_0 : Int) : LS := LS.mk 26 [(0, .t (.sl 4 (a0.map c_GApiValue))), (1, .t (.sl 4 (a1.map c_GApiValue))), (12, aI .i64 (a0.length : Int)), (13, aI .i64 v0_13_0)] []
def r11_SameValues_j1_s  : LS := LS.mk 26 [] []
theorem r11_SameValues_l0_ok (n : Nat)  (a0 : (List GApiValue)) (a1 : (List GApiValue)) (v0_13_0 : Int) (r_ : Bool) (Q' : Exit → St → Prop) (kr : KR Try.prog 34 r11_SameValues_e r_ .ret Q') (k_x_0 : KX r11_SameValues_B n (.j1 ) r_ (r11_SameValues_j1_s ) (.exit 0) Q') (h : recN r11_SameValues_B n (.l0 a0 a1 v0_13_0) = some r_) : W Try.prog (subC (bodyC Try.prog 34) [1, 1, 0, 1, 0]) (r11_SameValues_l0_s a0 a1 v0_13_0).st Q' := by
 refine W_fix (σ := Int) (fun m x_ => m ≤ n ∧ recN r11_SameValues_B m (.l0 a0 a1 x_) = some r_) (fun x_ => r11_SameValues_l0_s a0 a1 x_) (fun x hx => by cases hx.2) (fun _ _ => rfl) ?_ n (v0_13_0) ⟨Nat.le_refl _, h⟩
 clear h
 rintro m v0_13_0 ⟨hlt, h⟩
 replace h : r11_SameValues_l0_b (recN r11_SameValues_B m) a0 a1 v0_13_0 = some r_ := h
 unfold r11_SameValues_l0_b at h
 refine Wd [(14, aB (decide (v0_13_0 < (a0.length : Int))))] [] [] [] [q_] aN ?_
 refine W_seq ?_
 refine W_cd h (by kernel_rfl) (fun hx1001 h => ?_) (fun hx1001 h => ?_)
 refine W_skip ?_
 refine W_seq ?_
 refine W_block ?_
 refine Wd [(5, aI .i64 v0_13_0)] [14] [] [] [q_, q_] aN ?_
 obtain ⟨x6_2, hx6_2, h⟩ := bind_ok h
 obtain ⟨x6_6, hx6_6, h⟩ := bind_ok h
 refine Wd [(24, aB (!(decide (x6_2.Kind = x6_6.Kind) && (decide (x6_2.N = x6_6.N) && (decide (x6_2.Re = x6_6.Re) && decide (x6_2.Im = x6_6.Im))))))] [5] [] [] [q_, q_, qn (.ix (Int.toNat v0_13_0) (c_GApiValue x6_2)), q_, q_, q_, qn (.ix (Int.toNat v0_13_0) (c_GApiValue x6_6)), q_, qn (.quiet (aB (!(decide (x6_2.Kind = x6_6.Kind) && (decide (x6_2.N = x6_6.N) && (decide (x6_2.Re = x6_6.Re) && decide (x6_2.Im = x6_6.Im)))))))] (aC (ix_obx c_GApiValue hx6_2) (aC (ix_obx c_GApiValue hx6_6) (aC (show Quiet Try.prog (opAt (subC (bodyC Try.prog 34) [1, 1, 0, 1, 0, 0, 1, 1, 0, 0, 1, 0]) 8) [e_GApiValue x6_2, e_GApiValue x6_6] (aB (!(decide (x6_2.Kind = x6_6.Kind) && (decide (x6_2.N = x6_6.N) && (decide (x6_2.Re = x6_6.Re) && decide (x6_2.Im = x6_6.Im)))))) from eqA_ob (P := Try.prog) (ne := true) (xs := [.int .u8 x6_2.Kind, .int .i64 x6_2.N, .int .i64 x6_2.Re, .int .i64 x6_2.Im]) (ys := [.int .u8 x6_6.Kind, .int .i64 x6_6.N, .int .i64 x6_6.Re, .int .i64 x6_6.Im]) (hh := none) ⟨_, by rfl⟩ (by kernel_rfl) (by kernel_rfl)) aN))) ?_
 refine W_cbn h (by kernel_rfl) (fun hx1002 h => ?_) (fun hx1002 h => ?_)
 refine W_skip ?_
 refine We [(13, aI .i64 (w64 (v0_13_0 + 1)))] [24] [] [] [q_, q_] aN ?_
 exact ⟨m, ((w64 (v0_13_0 + 1))), Nat.le_refl _, ⟨Nat.le_of_lt hlt, h⟩, cvf (c0 [0, 1, 12, 13])⟩
 refine Wd [(4, aB false)] [0, 1, 12, 13, 24] [] [] [q_] aN ?_
 refine W_ret ?_
 exact kre kr [] h
 refine W_exit ?_
 exact k_x_0 m hlt _ h (cvf (c0 []))
theorem r11_SameValues_j1_ok (n : Nat)   (r_ : Bool) (Q' : Exit → St → Prop) (kr : KR Try.prog 34 r11_SameValues_e r_ .ret Q')  (h : recN r11_SameValues_B n (.j1 ) = some r_) : W Try.prog (subC (bodyC Try.prog 34) [1, 1, 1]) (r11_SameValues_j1_s ).st Q' := by
 rcases n with _ | m
 cases h
 have hlt := Nat.lt_succ_self m
 replace h : r11_SameValues_j1_b (recN r11_SameValues_B m)  = some r_ := h
 unfold r11_SameValues_j1_b at h
 refine Wd [(4, aB true)] [] [] [] [q_] aN ?_
 refine W_ret ?_
 exact kre kr [] h
noncomputable def r11_SameValues (a0 : (List GApiValue)) (a1 : (List GApiValue)) : Option Bool :=
  (if (a0.length : Int) = (a1.length : Int) then r11_SameValues_l0 a0 a1 0 else (some false))
theorem r11_SameValues_ok {a0 : (List GApiValue)} {a1 : (List GApiValue)} {r_ : Bool} (h : r11_SameValues a0 a1 = some r_) : R_r11_SameValues a0 a1 r_ := by
 unfold r11_SameValues at h
 refine fn_pureZ (enc := r11_SameValues_e) (by kernel_rfl) fun Q' kr kn => ?_
 refine Wd [] [] [] [] [q_] aN ?_
 refine W_seq ?_
 refine Wd [(10, aB (!(decide ((a0.length : Int) = (a1.length : Int)))))] [] [] [] [q_, qn (.len a0.length), q_, qn (.len a1.length), q_] (aC (len_obx c_GApiValue a0) (aC (len_obx c_GApiValue a1) aN)) ?_
 refine W_cdn h (by kernel_rfl) (fun hx1 h => ?_) (fun hx1 h => ?_)
 refine W_skip ?_
 refine W_seq ?_
 refine Wd [(12, aI .i64 (a0.length : Int)), (13, aI .i64 0)] [10] [] [] [q_, qn (.len a0.length), q_] (aC (len_obx c_GApiValue a0) aN) ?_
 refine W_block ?_
 obtain ⟨n, h⟩ := fix_rec h
 exact Wc (c0 [0, 1, 12, 13]) (r11_SameValues_l0_ok n a0 a1 0 r_ _ kr (fun q1 hq1 s' h hf => W_pre hf (r11_SameValues_j1_ok q1 r_ _ kr h)) h)
 refine Wd [(4, aB false)] [0, 1, 10] [] [] [q_] aN ?_
 refine W_ret ?_
 exact kre kr [] h
def R_r11_Same (a0 : (List GApiObj)) (a1 : (List GApiObj)) (r : Bool) : Prop := FnP Try.prog 15 [.t (.sl 4 (a0.map c_GApiObj)), .t (.sl 4 (a1.map c_GApiObj))] (aB r)
inductive r11_Same_C where
  | l0 (a0 : (List GApiObj)) (a1 : (List GApiObj)) (v0_13_0 : Int)
  | j1
abbrev r11_Same_C_T : r11_Same_C → Type := fun _ => Bool
noncomputable def r11_Same_l0_b (g : (i : r11_Same_C) → Option (r11_Same_C_T i)) (a0 : (List GApiObj)) (a1 : (List GApiObj)) (v0_13_0 : Int) : Option Bool :=
  (if v0_13_0 < (a0.length : Int) then ((getI a0 v0_13_0).bind fun (x6_2 : GApiObj) => ((getI a1 v0_13_0).bind fun (x6_7 : GApiObj) => (if x6_2.Kind = x6_7.Kind then (if x6_2.Of = x6_7.Of then (if x6_2.Text = x6_7.Text then ((r11_SameValues x6_2.Vals x6_7.Vals).bind fun (r6_48 : Bool) => (if r6_48 = true then g (.l0 a0 a1 (w64 (v0_13_0 + 1))) else (some false))) else (some false)) else (some false)) else (some false)))) else g (.j1))
noncomputable def r11_Same_j1_b (g : (i : r11_Same_C) → Option (r11_Same_C_T i))  : Option Bool :=
  (some true)
noncomputable def r11_Same_B (g : (i : r11_Same_C) → Option (r11_Same_C_T i)) : (i : r11_Same_C) → Option (r11_Same_C_T i)
  | .l0 a0 a1 v0_13_0 => r11_Same_l0_b g a0 a1 v0_13_0
  | .j1  => r11_Same_j1_b g
theorem r11_Same_B_fin (i : r11_Same_C) : Fin1 (fun g => r11_Same_B g i) := by
 cases i
 all_goals (delta r11_Same_B; dsimp only)
 unfold r11_Same_l0_b; rotate_left
 unfold r11_Same_j1_b; rotate_left
 all_goals repeat (first | refine fin_bind ?_ (fun _ => ?_) | refine fin_ite ?_ ?_ | refine fin_opt ?_ (fun _ => ?_) | exact fin_ask _ | exact fin_const _)
noncomputable def r11_Same_l0 (a0 : (List GApiObj)) (a1 : (List GApiObj)) (v0_13_0 : Int) : Option Bool := fixD r11_Same_B (.l0 a0 a1 v0_13_0)
noncomputable def r11_Same_j1  : Option Bool := fixD r11_Same_B (.j1 )
theorem r11_Same_l0_eq (a0 : (List GApiObj)) (a1 : (List GApiObj)) (v0_13_0 : Int) : r11_Same_l0 a0 a1 v0_13_0 =
  (if v0_13_0 < (a0.length : Int) then ((getI a0 v0_13_0).bind fun (x6_2 : GApiObj) => ((getI a1 v0_13_0).bind fun (x6_7 : GApiObj) => (if x6_2.Kind = x6_7.Kind then (if x6_2.Of = x6_7.Of then (if x6_2.Text = x6_7.Text then ((r11_SameValues x6_2.Vals x6_7.Vals).bind fun (r6_48 : Bool) => (if r6_48 = true then r11_Same_l0 a0 a1 (w64 (v0_13_0 + 1)) else (some false))) else (some false)) else (some false)) else (some false)))) else r11_Same_j1) := fix_eq r11_Same_B_fin _
theorem r11_Same_j1_eq  : r11_Same_j1  =
  (some true) := fix_eq r11_Same_B_fin _
abbrev r11_Same_e (x : Bool) : A := (aB x)
def r11_Same_l0_s (a0 : (List GApiObj)) (a1 : (List GApiObj)) (v0_13_0 : Int) : LS := LS.mk 68 [(0, .t (.sl 4 (a0.map c_GApiObj))), (1, .t (.sl 4 (a1.map c_GApiObj))), (12, aI .i64 (a0.length : Int)), (13, aI .i64 v0_13_0)] []
def r11_Same_j1_s  : LS := LS.mk 68 [] []
theorem r11_Same_l0_ok (n : Nat)  (a0 : (List GApiObj)) (a1 : (List GApiObj)) (v0_13_0 : Int) (r_ : Bool) (Q' : Exit → St → Prop) (kr : KR Try.prog 15 r11_Same_e r_ .ret Q') (k_x_0 : KX r11_Same_B n (.j1 ) r_ (r11_Same_j1_s ) (.exit 0) Q') (h : recN r11_Same_B n (.l0 a0 a1 v0_13_0) = some r_) : W Try.prog (subC (bodyC Try.prog 15) [1, 1, 0, 1, 0]) (r11_Same_l0_s a0 a1 v0_13_0).st Q' := by
 refine W_fix (σ := Int) (fun m x_ => m ≤ n ∧ recN r11_Same_B m (.l0 a0 a1 x_) = some r_) (fun x_ => r11_Same_l0_s a0 a1 x_) (fun x hx => by cases hx.2) (fun _ _ => rfl) ?_ n (v0_13_0) ⟨Nat.le_refl _, h⟩
 clear h
 rintro m v0_13_0 ⟨hlt, h⟩
 replace h : r11_Same_l0_b (recN r11_Same_B m) a0 a1 v0_13_0 = some r_ := h
 unfold r11_Same_l0_b at h
 refine Wd [(14, aB (decide (v0_13_0 < (a0.length : Int))))] [] [] [] [q_] aN ?_
 refine W_seq ?_
 refine W_cd h (by kernel_rfl) (fun hx1001 h => ?_) (fun hx1001 h => ?_)
 refine W_skip ?_
 refine W_seq ?_
 refine W_block ?_
 refine Wd [(5, aI .i64 v0_13_0)] [14] [] [] [q_, q_] aN ?_
 obtain ⟨x6_2, hx6_2, h⟩ := bind_ok h
 obtain ⟨x6_7, hx6_7, h⟩ := bind_ok h
 refine if_c h (fun hx1002 h => ?_) (fun hx1002 h => ?_)
 refine if_c h (fun hx1003 h => ?_) (fun hx1003 h => ?_)
 refine if_c h (fun hx1004 h => ?_) (fun hx1004 h => ?_)
 obtain ⟨r6_48, hr6_48, h⟩ := bindk r11_SameValues_ok h
 refine Wd [(66, aB (!r6_48))] [5] [] [] [q_, q_, qn (.ix (Int.toNat v0_13_0) (c_GApiObj x6_2)), q_, q_, q_, q_, qn (.ix (Int.toNat v0_13_0) (c_GApiObj x6_7)), q_, q_, q_, q_, qf0, qf0, qf (.ix (Int.toNat v0_13_0) (c_GApiObj x6_2)), qf0, qf0, qf0, qf0, qf (.ix (Int.toNat v0_13_0) (c_GApiObj x6_7)), qf0, qf0, qf0, qn (.dec false), q_, qf0, qf0, qf (.ix (Int.toNat v0_13_0) (c_GApiObj x6_2)), qf0, qf0, qf0, qf0, qf (.ix (Int.toNat v0_13_0) (c_GApiObj x6_7)), qf0, qf0, qf (.val (.bool (!(decide (x6_2.Text = x6_7.Text))))), qn (.dec false), q_, qf0, qf0, qf (.ix (Int.toNat v0_13_0) (c_GApiObj x6_2)), qf0, qf0, qf0, qf0, qf (.ix (Int.toNat v0_13_0) (c_GApiObj x6_7)), qf0, qf0, qf (.call [] (aB r6_48)), qf0, qn (.dec false)] (aC (ix_obx c_GApiObj hx6_2) (aC (ix_obx c_GApiObj hx6_7) (aC (not_t hx1002) (aC (not_t hx1002) (aC (not_t hx1002) (aC (ix_obx c_GApiObj hx6_2) (aC (not_t hx1002) (aC (not_t hx1002) (aC (not_t hx1002) (aC (not_t hx1002) (aC (not_t hx1002) (aC (ix_obx c_GApiObj hx6_7) (aC (not_t hx1002) (aC (not_t hx1002) (aC (not_t hx1002) (aC (not_t hx1002) (aC (not_t hx1003) (aC (not_t hx1003) (aC (not_t hx1003) (aC (ix_obx c_GApiObj hx6_2) (aC (not_t hx1003) (aC (not_t hx1003) (aC (not_t hx1003) (aC (not_t hx1003) (aC (not_t hx1003) (aC (ix_obx c_GApiObj hx6_7) (aC (not_t hx1003) (aC (not_t hx1003) (aC (not_t hx1003) (aC (str_ne_ob (P := Try.prog) 9 x6_2.Text x6_7.Text) (aC (not_t hx1003) (aC (not_t hx1004) (aC (not_t hx1004) (aC (not_t hx1004) (aC (ix_obx c_GApiObj hx6_2) (aC (not_t hx1004) (aC (not_t hx1004) (aC (not_t hx1004) (aC (not_t hx1004) (aC (not_t hx1004) (aC (ix_obx c_GApiObj hx6_7) (aC (not_t hx1004) (aC (not_t hx1004) (aC (not_t hx1004) (aC hr6_48 (aC (not_t hx1004) (aC (not_t hx1004) aN))))))))))))))))))))))))))))))))))))))))))))))) ?_
 refine W_cbn h (by kernel_rfl) (fun hx1005 h => ?_) (fun hx1005 h => ?_)
 refine W_skip ?_
 refine We [(13, aI .i64 (w64 (v0_13_0 + 1)))] [66] [] [] [q_, q_] aN ?_
 exact ⟨m, ((w64 (v0_13_0 + 1))), Nat.le_refl _, ⟨Nat.le_of_lt hlt, h⟩, cvf (c0 [0, 1, 12, 13])⟩
 refine Wd [(4, aB false)] [0, 1, 12, 13, 66] [] [] [q_] aN ?_
 refine W_ret ?_
 exact kre kr [] h
 refine Wd [(66, aB true)] [5] [] [] [q_, q_, qn (.ix (Int.toNat v0_13_0) (c_GApiObj x6_2)), q_, q_, q_, q_, qn (.ix (Int.toNat v0_13_0) (c_GApiObj x6_7)), q_, q_, q_, q_, qf0, qf0, qf (.ix (Int.toNat v0_13_0) (c_GApiObj x6_2)), qf0, qf0, qf0, qf0, qf (.ix (Int.toNat v0_13_0) (c_GApiObj x6_7)), qf0, qf0, qf0, qn (.dec false), q_, qf0, qf0, qf (.ix (Int.toNat v0_13_0) (c_GApiObj x6_2)), qf0, qf0, qf0, qf0, qf (.ix (Int.toNat v0_13_0) (c_GApiObj x6_7)), qf0, qf0, qf (.val (.bool (!(decide (x6_2.Text = x6_7.Text))))), qn (.dec false), q_, qt0, qt0, qt0, qt0, qt0, qt0, qt0, qt0, qt0, qt0, qt0, qt0, qn (.dec true)] (aC (ix_obx c_GApiObj hx6_2) (aC (ix_obx c_GApiObj hx6_7) (aC (not_t hx1002) (aC (not_t hx1002) (aC (not_t hx1002) (aC (ix_obx c_GApiObj hx6_2) (aC (not_t hx1002) (aC (not_t hx1002) (aC (not_t hx1002) (aC (not_t hx1002) (aC (not_t hx1002) (aC (ix_obx c_GApiObj hx6_7) (aC (not_t hx1002) (aC (not_t hx1002) (aC (not_t hx1002) (aC (not_t hx1002) (aC (not_t hx1003) (aC (not_t hx1003) (aC (not_t hx1003) (aC (ix_obx c_GApiObj hx6_2) (aC (not_t hx1003) (aC (not_t hx1003) (aC (not_t hx1003) (aC (not_t hx1003) (aC (not_t hx1003) (aC (ix_obx c_GApiObj hx6_7) (aC (not_t hx1003) (aC (not_t hx1003) (aC (not_t hx1003) (aC (str_ne_ob (P := Try.prog) 9 x6_2.Text x6_7.Text) (aC (not_t hx1003) (aC (not_f hx1004) (aC (not_f hx1004) (aC (not_f hx1004) (aC (not_f hx1004) (aC (not_f hx1004) (aC (not_f hx1004) (aC (not_f hx1004) (aC (not_f hx1004) (aC (not_f hx1004) (aC (not_f hx1004) (aC (not_f hx1004) (aC (not_f hx1004) (aC (not_f hx1004) aN)))))))))))))))))))))))))))))))))))))))))))) ?_
 refine W_ct (e := true) rfl (by kernel_rfl) ?_
 refine Wd [(4, aB false)] [0, 1, 12, 13, 66] [] [] [q_] aN ?_
 refine W_ret ?_
 exact kre kr [] h
 refine Wd [(66, aB true)] [5] [] [] (q_ :: q_ :: qn (.ix (Int.toNat v0_13_0) (c_GApiObj x6_2)) :: q_ :: q_ :: q_ :: q_ :: qn (.ix (Int.toNat v0_13_0) (c_GApiObj x6_7)) :: q_ :: q_ :: q_ :: q_ :: qf0 :: qf0 :: qf (.ix (Int.toNat v0_13_0) (c_GApiObj x6_2)) :: qf0 :: qf0 :: qf0 :: qf0 :: qf (.ix (Int.toNat v0_13_0) (c_GApiObj x6_7)) :: qf0 :: qf0 :: qf0 :: qn (.dec false) :: q_ :: qt0 :: qt0 :: qt0 :: qt0 :: qt0 :: qt0 :: qt0 :: qt0 :: qt0 :: qt0 :: qt0 :: qn (.dec true) :: (qz 14 [])) (aC (ix_obx c_GApiObj hx6_2) (aC (ix_obx c_GApiObj hx6_7) (aC (not_t hx1002) (aC (not_t hx1002) (aC (not_t hx1002) (aC (ix_obx c_GApiObj hx6_2) (aC (not_t hx1002) (aC (not_t hx1002) (aC (not_t hx1002) (aC (not_t hx1002) (aC (not_t hx1002) (aC (ix_obx c_GApiObj hx6_7) (aC (not_t hx1002) (aC (not_t hx1002) (aC (not_t hx1002) (aC (not_t hx1002) (aC (not_f hx1003) (aC (not_f hx1003) (aC (not_f hx1003) (aC (not_f hx1003) (aC (not_f hx1003) (aC (not_f hx1003) (aC (not_f hx1003) (aC (not_f hx1003) (aC (not_f hx1003) (aC (not_f hx1003) (aC (not_f hx1003) (aC (not_f hx1003) aN)))))))))))))))))))))))))))) ?_
 refine W_ct (e := true) rfl (by kernel_rfl) ?_
 refine Wd [(4, aB false)] [0, 1, 12, 13, 66] [] [] [q_] aN ?_
 refine W_ret ?_
 exact kre kr [] h
 refine Wd [(66, aB true)] [5] [] [] (q_ :: q_ :: qn (.ix (Int.toNat v0_13_0) (c_GApiObj x6_2)) :: q_ :: q_ :: q_ :: q_ :: qn (.ix (Int.toNat v0_13_0) (c_GApiObj x6_7)) :: q_ :: q_ :: q_ :: q_ :: qt0 :: qt0 :: qt0 :: qt0 :: qt0 :: qt0 :: qt0 :: qt0 :: qt0 :: qt0 :: qt0 :: qn (.dec true) :: (qz 27 [])) (aC (ix_obx c_GApiObj hx6_2) (aC (ix_obx c_GApiObj hx6_7) (aC (not_f hx1002) (aC (not_f hx1002) (aC (not_f hx1002) (aC (not_f hx1002) (aC (not_f hx1002) (aC (not_f hx1002) (aC (not_f hx1002) (aC (not_f hx1002) (aC (not_f hx1002) (aC (not_f hx1002) (aC (not_f hx1002) (aC (not_f hx1002) aN)))))))))))))) ?_
 refine W_ct (e := true) rfl (by kernel_rfl) ?_
 refine Wd [(4, aB false)] [0, 1, 12, 13, 66] [] [] [q_] aN ?_
 refine W_ret ?_
 exact kre kr [] h
 refine W_exit ?_
 exact k_x_0 m hlt _ h (cvf (c0 []))
theorem r11_Same_j1_ok (n : Nat)   (r_ : Bool) (Q' : Exit → St → Prop) (kr : KR Try.prog 15 r11_Same_e r_ .ret Q')  (h : recN r11_Same_B n (.j1 ) = some r_) : W Try.prog (subC (bodyC Try.prog 15) [1, 1, 1]) (r11_Same_j1_s ).st Q' := by
 rcases n with _ | m
 cases h
 have hlt := Nat.lt_succ_self m
 replace h : r11_Same_j1_b (recN r11_Same_B m)  = some r_ := h
 unfold r11_Same_j1_b at h
 refine Wd [(4, aB true)] [] [] [] [q_] aN ?_
 refine W_ret ?_
 exact kre kr [] h
noncomputable def r11_Same (a0 : (List GApiObj)) (a1 : (List GApiObj)) : Option Bool :=
  (if (a0.length : Int) = (a1.length : Int) then r11_Same_l0 a0 a1 0 else (some false))
theorem r11_Same_ok {a0 : (List GApiObj)} {a1 : (List GApiObj)} {r_ : Bool} (h : r11_Same a0 a1 = some r_) : R_r11_Same a0 a1 r_ := by
 unfold r11_Same at h
 refine fn_pureZ (enc := r11_Same_e) (by kernel_rfl) fun Q' kr kn => ?_
 refine Wd [] [] [] [] [q_] aN ?_
 refine W_seq ?_
 refine Wd [(10, aB (!(decide ((a0.length : Int) = (a1.length : Int)))))] [] [] [] [q_, qn (.len a0.length), q_, qn (.len a1.length), q_] (aC (len_obx c_GApiObj a0) (aC (len_obx c_GApiObj a1) aN)) ?_
 refine W_cdn h (by kernel_rfl) (fun hx1 h => ?_) (fun hx1 h => ?_)
 refine W_skip ?_
 refine W_seq ?_
 refine Wd [(12, aI .i64 (a0.length : Int)), (13, aI .i64 0)] [10] [] [] [q_, qn (.len a0.length), q_] (aC (len_obx c_GApiObj a0) aN) ?_
 refine W_block ?_
 obtain ⟨n, h⟩ := fix_rec h
 exact Wc (c0 [0, 1, 12, 13]) (r11_Same_l0_ok n a0 a1 0 r_ _ kr (fun q1 hq1 s' h hf => W_pre hf (r11_Same_j1_ok q1 r_ _ kr h)) h)
 refine Wd [(4, aB false)] [0, 1, 10] [] [] [q_] aN ?_
 refine W_ret ?_
 exact kre kr [] h
def R_l11_great (a0 : (List GL11Op)) (r : Bool) : Prop := FnP Try.prog 17 [.t (.sl 13 (a0.map c_GL11Op))] (aB r)
inductive l11_great_C where
  | l0 (a0 : (List GL11Op)) (v0_3_0 : Int)
  | j1
abbrev l11_great_C_T : l11_great_C → Type := fun _ => Bool
noncomputable def l11_great_l0_b (g : (i : l11_great_C) → Option (l11_great_C_T i)) (a0 : (List GL11Op)) (v0_3_0 : Int) : Option Bool :=
  (if v0_3_0 < (a0.length : Int) then ((getI a0 v0_3_0).bind fun (x5_2 : GL11Op) => (if (x5_2.Text.length : Int) > 1000 then (some true) else (if (x5_2.Vals.length : Int) > 300 then (some true) else (if x5_2.Kind = 1 then (if x5_2.N > 1000 then (if x5_2.N ≤ 65536 then (some true) else g (.l0 a0 (w64 (v0_3_0 + 1)))) else g (.l0 a0 (w64 (v0_3_0 + 1)))) else g (.l0 a0 (w64 (v0_3_0 + 1))))))) else g (.j1))
noncomputable def l11_great_j1_b (g : (i : l11_great_C) → Option (l11_great_C_T i))  : Option Bool :=
  (some false)
noncomputable def l11_great_B (g : (i : l11_great_C) → Option (l11_great_C_T i)) : (i : l11_great_C) → Option (l11_great_C_T i)
  | .l0 a0 v0_3_0 => l11_great_l0_b g a0 v0_3_0
  | .j1  => l11_great_j1_b g
theorem l11_great_B_fin (i : l11_great_C) : Fin1 (fun g => l11_great_B g i) := by
 cases i
 all_goals (delta l11_great_B; dsimp only)
 unfold l11_great_l0_b; rotate_left
 unfold l11_great_j1_b; rotate_left
 all_goals repeat (first | refine fin_bind ?_ (fun _ => ?_) | refine fin_ite ?_ ?_ | refine fin_opt ?_ (fun _ => ?_) | exact fin_ask _ | exact fin_const _)
noncomputable def l11_great_l0 (a0 : (List GL11Op)) (v0_3_0 : Int) : Option Bool := fixD l11_great_B (.l0 a0 v0_3_0)
noncomputable def l11_great_j1  : Option Bool := fixD l11_great_B (.j1 )
theorem l11_great_l0_eq (a0 : (List GL11Op)) (v0_3_0 : Int) : l11_great_l0 a0 v0_3_0 =
  (if v0_3_0 < (a0.length : Int) then ((getI a0 v0_3_0).bind fun (x5_2 : GL11Op) => (if (x5_2.Text.length : Int) > 1000 then (some true) else (if (x5_2.Vals.length : Int) > 300 then (some true) else (if x5_2.Kind = 1 then (if x5_2.N > 1000 then (if x5_2.N ≤ 65536 then (some true) else l11_great_l0 a0 (w64 (v0_3_0 + 1))) else l11_great_l0 a0 (w64 (v0_3_0 + 1))) else l11_great_l0 a0 (w64 (v0_3_0 + 1)))))) else l11_great_j1) := fix_eq l11_great_B_fin _
theorem l11_great_j1_eq  : l11_great_j1  =
  (some false) := fix_eq l11_great_B_fin _
abbrev l11_great_e (x : Bool) : A := (aB x)
def l11_great_l0_s (a0 : (List GL11Op)) (v0_3_0 : Int) : LS := LS.mk 53 [(0, .t (.sl 13 (a0.map c_GL11Op))), (3, aI .i64 v0_3_0)] []
def l11_great_j1_s  : LS := LS.mk 53 [] []
theorem l11_great_l0_ok (n : Nat)  (a0 : (List GL11Op)) (v0_3_0 : Int) (r_ : Bool) (Q' : Exit → St → Prop) (kr : KR Try.prog 17 l11_great_e r_ .ret Q') (k_x_0 : KX l11_great_B n (.j1 ) r_ (l11_great_j1_s ) (.exit 0) Q') (h : recN l11_great_B n (.l0 a0 v0_3_0) = some r_) : W Try.prog (subC (bodyC Try.prog 17) [1, 1, 0, 1, 0]) (l11_great_l0_s a0 v0_3_0).st Q' := by
 refine W_fix (σ := Int) (fun m x_ => m ≤ n ∧ recN l11_great_B m (.l0 a0 x_) = some r_) (fun x_ => l11_great_l0_s a0 x_) (fun x hx => by cases hx.2) (fun _ _ => rfl) ?_ n (v0_3_0) ⟨Nat.le_refl _, h⟩
 clear h
 rintro m v0_3_0 ⟨hlt, h⟩
 replace h : l11_great_l0_b (recN l11_great_B m) a0 v0_3_0 = some r_ := h
 unfold l11_great_l0_b at h
 refine W_seq ?_
 refine Wd [(10, aB (decide (v0_3_0 < (a0.length : Int))))] [] [] [] [q_, q_, qn (.len a0.length), q_] (aC (len_obx c_GL11Op a0) aN) ?_
 refine W_cd h (by kernel_rfl) (fun hx1001 h => ?_) (fun hx1001 h => ?_)
 refine W_skip ?_
 refine W_seq ?_
 refine W_block ?_
 obtain ⟨x5_2, hx5_2, h⟩ := bind_ok h
 refine if_c h (fun hx1002 h => ?_) (fun hx1002 h => ?_)
 refine Wd [(52, aB true)] [10] [] [] (q_ :: q_ :: qn (.ix (Int.toNat v0_3_0) (c_GL11Op x5_2)) :: q_ :: q_ :: q_ :: q_ :: q_ :: qt0 :: qt0 :: qt0 :: qt0 :: qt0 :: qt0 :: qt0 :: qn (.dec true) :: (qz 24 [])) (aC (ix_obx c_GL11Op hx5_2) (aC hx1002 (aC hx1002 (aC hx1002 (aC hx1002 (aC hx1002 (aC hx1002 (aC hx1002 (aC hx1002 aN))))))))) ?_
 refine W_ct (e := true) rfl (by kernel_rfl) ?_
 refine Wd [(2, aB true)] [0, 3, 52] [] [] [q_] aN ?_
 refine W_ret ?_
 exact kre kr [] h
 refine if_c h (fun hx1003 h => ?_) (fun hx1003 h => ?_)
 refine Wd [(52, aB true)] [10] [] [] (q_ :: q_ :: qn (.ix (Int.toNat v0_3_0) (c_GL11Op x5_2)) :: q_ :: q_ :: q_ :: q_ :: q_ :: qf0 :: qf0 :: qf (.ix (Int.toNat v0_3_0) (c_GL11Op x5_2)) :: qf0 :: qf0 :: qf (.len x5_2.Vals.length) :: qf0 :: qn (.dec false) :: q_ :: qt0 :: qt0 :: qt0 :: qt0 :: qt0 :: qt0 :: qt0 :: (qz 6 (qt0 :: qt0 :: (qz 6 [qt0, qn (.dec true)])))) (aC (ix_obx c_GL11Op hx5_2) (aC hx1002 (aC hx1002 (aC hx1002 (aC (ix_obx c_GL11Op hx5_2) (aC hx1002 (aC hx1002 (aC hx1002 (aC (len_obx c_GApiValue x5_2.Vals) (aC hx1002 (aC hx1002 (aC hx1003 (aC hx1003 (aC hx1003 (aC hx1003 (aC hx1003 (aC hx1003 (aC hx1003 (aC hx1003 (aC hx1003 (aC hx1003 (aC hx1003 aN)))))))))))))))))))))) ?_
 refine W_ct (e := true) rfl (by kernel_rfl) ?_
 refine Wd [(2, aB true)] [0, 3, 52] [] [] [q_] aN ?_
 refine W_ret ?_
 exact kre kr [] h
 refine if_c h (fun hx1004 h => ?_) (fun hx1004 h => ?_)
 refine if_c h (fun hx1005 h => ?_) (fun hx1005 h => ?_)
 refine Wd [(52, aB (decide (x5_2.N ≤ 65536)))] [10] [] [] [q_, q_, qn (.ix (Int.toNat v0_3_0) (c_GL11Op x5_2)), q_, q_, q_, q_, q_, qf0, qf0, qf (.ix (Int.toNat v0_3_0) (c_GL11Op x5_2)), qf0, qf0, qf (.len x5_2.Vals.length), qf0, qn (.dec false), q_, qf0, qf0, qf (.ix (Int.toNat v0_3_0) (c_GL11Op x5_2)), qf0, qf0, qf0, qf0, qt0, qt0, qt (.ix (Int.toNat v0_3_0) (c_GL11Op x5_2)), qt0, qt0, qt0, qf (.dec true), qf0, qt0, qt0, qt (.ix (Int.toNat v0_3_0) (c_GL11Op x5_2)), qt0, qt0, qt0, qf (.dec true), qn (.dec false)] (aC (ix_obx c_GL11Op hx5_2) (aC hx1002 (aC hx1002 (aC hx1002 (aC (ix_obx c_GL11Op hx5_2) (aC hx1002 (aC hx1002 (aC hx1002 (aC (len_obx c_GApiValue x5_2.Vals) (aC hx1002 (aC hx1002 (aC hx1003 (aC hx1003 (aC hx1003 (aC (ix_obx c_GL11Op hx5_2) (aC hx1003 (aC hx1003 (aC hx1003 (aC hx1003 (aC hx1004 (aC hx1004 (aC hx1004 (aC (ix_obx c_GL11Op hx5_2) (aC hx1004 (aC hx1004 (aC hx1004 (aC hx1003 (aC hx1004 (aC hx1003 (aC hx1005 (aC hx1005 (aC hx1005 (aC (ix_obx c_GL11Op hx5_2) (aC hx1005 (aC hx1005 (aC hx1005 (aC hx1003 (aC hx1005 (aC hx1003 aN))))))))))))))))))))))))))))))))))))))) ?_
 refine W_cd h (by kernel_rfl) (fun hx1006 h => ?_) (fun hx1006 h => ?_)
 refine Wd [(2, aB true)] [0, 3, 52] [] [] [q_] aN ?_
 refine W_ret ?_
 exact kre kr [] h
 refine W_skip ?_
 refine We [(3, aI .i64 (w64 (v0_3_0 + 1)))] [52] [] [] [q_, q_, q_] aN ?_
 exact ⟨m, ((w64 (v0_3_0 + 1))), Nat.le_refl _, ⟨Nat.le_of_lt hlt, h⟩, cvf (c0 [0, 3])⟩
 refine Wd [(52, aB false)] [10] [] [] [q_, q_, qn (.ix (Int.toNat v0_3_0) (c_GL11Op x5_2)), q_, q_, q_, q_, q_, qf0, qf0, qf (.ix (Int.toNat v0_3_0) (c_GL11Op x5_2)), qf0, qf0, qf (.len x5_2.Vals.length), qf0, qn (.dec false), q_, qf0, qf0, qf (.ix (Int.toNat v0_3_0) (c_GL11Op x5_2)), qf0, qf0, qf0, qf0, qt0, qt0, qt (.ix (Int.toNat v0_3_0) (c_GL11Op x5_2)), qt0, qt0, qt0, qf (.dec true), qf0, qf0, qf0, qf0, qf0, qf0, qf0, qf (.dec false), qn (.dec false)] (aC (ix_obx c_GL11Op hx5_2) (aC hx1002 (aC hx1002 (aC hx1002 (aC (ix_obx c_GL11Op hx5_2) (aC hx1002 (aC hx1002 (aC hx1002 (aC (len_obx c_GApiValue x5_2.Vals) (aC hx1002 (aC hx1002 (aC hx1003 (aC hx1003 (aC hx1003 (aC (ix_obx c_GL11Op hx5_2) (aC hx1003 (aC hx1003 (aC hx1003 (aC hx1003 (aC hx1004 (aC hx1004 (aC hx1004 (aC (ix_obx c_GL11Op hx5_2) (aC hx1004 (aC hx1004 (aC hx1004 (aC hx1003 (aC hx1004 (aC hx1003 (aC hx1005 (aC hx1005 (aC hx1005 (aC hx1005 (aC hx1005 (aC hx1005 (aC hx1003 (aC hx1005 (aC hx1003 aN)))))))))))))))))))))))))))))))))))))) ?_
 refine W_cf (e := false) rfl (by kernel_rfl) ?_
 refine W_skip ?_
 refine We [(3, aI .i64 (w64 (v0_3_0 + 1)))] [52] [] [] [q_, q_, q_] aN ?_
 exact ⟨m, ((w64 (v0_3_0 + 1))), Nat.le_refl _, ⟨Nat.le_of_lt hlt, h⟩, cvf (c0 [0, 3])⟩
 refine Wd [(52, aB false)] [10] [] [] (q_ :: q_ :: qn (.ix (Int.toNat v0_3_0) (c_GL11Op x5_2)) :: q_ :: q_ :: q_ :: q_ :: q_ :: qf0 :: qf0 :: qf (.ix (Int.toNat v0_3_0) (c_GL11Op x5_2)) :: qf0 :: qf0 :: qf (.len x5_2.Vals.length) :: qf0 :: qn (.dec false) :: q_ :: qf0 :: qf0 :: qf (.ix (Int.toNat v0_3_0) (c_GL11Op x5_2)) :: qf0 :: qf0 :: qf0 :: qf0 :: qf0 :: qf0 :: qf0 :: qf0 :: qf0 :: qf0 :: qf (.dec false) :: qf0 :: (qz 6 [qf0, qn (.dec false)])) (aC (ix_obx c_GL11Op hx5_2) (aC hx1002 (aC hx1002 (aC hx1002 (aC (ix_obx c_GL11Op hx5_2) (aC hx1002 (aC hx1002 (aC hx1002 (aC (len_obx c_GApiValue x5_2.Vals) (aC hx1002 (aC hx1002 (aC hx1003 (aC hx1003 (aC hx1003 (aC (ix_obx c_GL11Op hx5_2) (aC hx1003 (aC hx1003 (aC hx1003 (aC hx1003 (aC hx1004 (aC hx1004 (aC hx1004 (aC hx1004 (aC hx1004 (aC hx1004 (aC hx1003 (aC hx1004 (aC hx1003 (aC hx1003 (aC hx1003 aN)))))))))))))))))))))))))))))) ?_
 refine W_cf (e := false) rfl (by kernel_rfl) ?_
 refine W_skip ?_
 refine We [(3, aI .i64 (w64 (v0_3_0 + 1)))] [52] [] [] [q_, q_, q_] aN ?_
 exact ⟨m, ((w64 (v0_3_0 + 1))), Nat.le_refl _, ⟨Nat.le_of_lt hlt, h⟩, cvf (c0 [0, 3])⟩
 refine W_exit ?_
 exact k_x_0 m hlt _ h (cvf (c0 []))
theorem l11_great_j1_ok (n : Nat)   (r_ : Bool) (Q' : Exit → St → Prop) (kr : KR Try.prog 17 l11_great_e r_ .ret Q')  (h : recN l11_great_B n (.j1 ) = some r_) : W Try.prog (subC (bodyC Try.prog 17) [1, 1, 1]) (l11_great_j1_s ).st Q' := by
 rcases n with _ | m
 cases h
 have hlt := Nat.lt_succ_self m
 replace h : l11_great_j1_b (recN l11_great_B m)  = some r_ := h
 unfold l11_great_j1_b at h
 refine Wd [(2, aB false)] [] [] [] [q_] aN ?_
 refine W_ret ?_
 exact kre kr [] h
noncomputable def l11_great (a0 : (List GL11Op)) : Option Bool :=
  (if (a0.length : Int) > 60 then (some true) else l11_great_l0 a0 0)
theorem l11_great_ok {a0 : (List GL11Op)} {r_ : Bool} (h : l11_great a0 = some r_) : R_l11_great a0 r_ := by
 unfold l11_great at h
 refine fn_pureZ (enc := l11_great_e) (by kernel_rfl) fun Q' kr kn => ?_
 refine Wd [] [] [] [] [q_] aN ?_
 refine W_seq ?_
 refine Wd [(6, aB (decide ((a0.length : Int) > 60)))] [] [] [] [q_, qn (.len a0.length), q_] (aC (len_obx c_GL11Op a0) aN) ?_
 refine W_cd h (by kernel_rfl) (fun hx1 h => ?_) (fun hx1 h => ?_)
 refine Wd [(2, aB true)] [0, 6] [] [] [q_] aN ?_
 refine W_ret ?_
 exact kre kr [] h
 refine W_skip ?_
 refine W_seq ?_
 refine Wd [(3, aI .i64 0)] [6] [] [] [q_] aN ?_
 refine W_block ?_
 obtain ⟨n, h⟩ := fix_rec h
 exact Wc (c0 [0, 3]) (l11_great_l0_ok n a0 0 r_ _ kr (fun q1 hq1 s' h hf => W_pre hf (l11_great_j1_ok q1 r_ _ kr h)) h)
def R_r11_Cost (a0 : GApiObj) (r : Int) : Prop := FnP Try.prog 21 [e_GApiObj a0] (aI .i64 r)
abbrev r11_Cost_e (x : Int) : A := (aI .i64 x)
noncomputable def r11_Cost (a0 : GApiObj) : Option Int :=
  (if a0.Kind = 3 then (if (Int.tmod (a0.Text.length : Int) 8) > 0 then (some (w64 ((w64 ((w64 (Int.tdiv (a0.Text.length : Int) 8)) + 1)) + 1))) else (some (w64 ((w64 (Int.tdiv (a0.Text.length : Int) 8)) + 1)))) else (some (w64 ((a0.Vals.length : Int) + 1))))
theorem r11_Cost_ok {a0 : GApiObj} {r_ : Int} (h : r11_Cost a0 = some r_) : R_r11_Cost a0 r_ := by
 unfold r11_Cost at h
 refine fn_pureZ (enc := r11_Cost_e) (by kernel_rfl) fun Q' kr kn => ?_
 refine Wd [(1, .ptr 1 0)] [0] [(1, .box 27 (b_GApiObj a0))] [] [q_, q_] aN ?_
 refine W_seq ?_
 refine Wd [(6, aB (decide (a0.Kind = 3)))] [] [] [] [q_, q_, q_] aN ?_
 refine W_cd h (by kernel_rfl) (fun hx1 h => ?_) (fun hx1 h => ?_)
 refine Wd [(3, aI .i64 (w64 (Int.tdiv (a0.Text.length : Int) 8)))] [6] [] [] (qz 5 []) aN ?_
 refine W_seq ?_
 refine Wd [(15, aB (decide ((Int.tmod (a0.Text.length : Int) 8) > 0)))] [1] [] [1] (qz 5 []) aN ?_
 refine W_cd h (by kernel_rfl) (fun hx2 h => ?_) (fun hx2 h => ?_)
 refine We [(3, aI .i64 (w64 ((w64 (Int.tdiv (a0.Text.length : Int) 8)) + 1)))] [15] [] [] [q_, q_, q_] aN ?_
 refine Wd [(2, aI .i64 (w64 ((w64 ((w64 (Int.tdiv (a0.Text.length : Int) 8)) + 1)) + 1)))] [3] [] [] [q_, q_, q_] aN ?_
 refine W_ret ?_
 exact kre kr [] h
 refine W_skip ?_
 refine Wd [(2, aI .i64 (w64 ((w64 (Int.tdiv (a0.Text.length : Int) 8)) + 1)))] [3, 15] [] [] [q_, q_, q_] aN ?_
 refine W_ret ?_
 exact kre kr [] h
 refine W_skip ?_
 refine Wd [(2, aI .i64 (w64 ((a0.Vals.length : Int) + 1)))] [1, 6] [] [1] [q_, q_, qn (.len a0.Vals.length), q_, q_] (aC (len_obx c_GApiValue a0.Vals) aN) ?_
 refine W_ret ?_
 exact kre kr [] h
def R_r11_H_Add (a0 : GR11H) (a1 : GApiObj) (r : (GApiValue × Bool × GR11H)) : Prop := FnP Try.prog 50 [e_GR11H a0, e_GApiObj a1] (.tup [e_GApiValue r.1, aB r.2.1, e_GR11H r.2.2])
abbrev r11_H_Add_e (x : (GApiValue × Bool × GR11H)) : A := (.tup [e_GApiValue x.1, aB x.2.1, e_GR11H x.2.2])
noncomputable def r11_H_Add (a0 : GR11H) (a1 : GApiObj) : Option (GApiValue × Bool × GR11H) :=
  ((r11_Cost a1).bind fun (r1_1 : Int) => (if (w64 (a0.Cells + r1_1)) > a0.Room then (some ((GApiValue.mk 0 0 0 0), false, a0)) else ((appD 56 ([] : List GApiObj) a0.L).bind fun (z5_3 : List GApiObj) => ((appD 56 z5_3 ([a1] : List GApiObj)).bind fun (z6_3 : List GApiObj) => (some ((GApiValue.mk a1.Kind (z6_3.length : Int) 0 0), true, (GR11H.mk a0.Room (w64 (a0.Cells + r1_1)) z6_3)))))))
theorem r11_H_Add_ok {a0 : GR11H} {a1 : GApiObj} {r_ : (GApiValue × Bool × GR11H)} (h : r11_H_Add a0 a1 = some r_) : R_r11_H_Add a0 a1 r_ := by
 unfold r11_H_Add at h
 refine fn_pureZ (enc := r11_H_Add_e) (by kernel_rfl) fun Q' kr kn => ?_
 refine Wd [(2, .ptr 2 0), (3, .ptr 3 0), (4, .ptr 4 0), (6, .ptr 6 0)] [0, 1] [(2, .box 33 [aI .i64 a0.Room, aI .i64 a0.Cells, .t (.sl 4 (a0.L.map c_GApiObj))]), (3, .box 27 (b_GApiObj a1)), (4, .box 46 [aI .u8 0, aI .i64 0, aI .i64 0, aI .i64 0]), (6, .box 33 [aI .i64 0, aI .i64 0, aNil])] [] (qz 5 []) aN ?_
 obtain ⟨r1_1, hr1_1, h⟩ := bindk r11_Cost_ok h
 refine Wd [(7, aI .i64 r1_1)] [] [] [] [q_, qn (.call [] (aI .i64 r1_1)), q_] (aC hr1_1 aN) ?_
 refine W_seq ?_
 refine Wd [(17, aB (decide ((w64 (a0.Cells + r1_1)) > a0.Room)))] [] [] [] (qz 7 []) aN ?_
 refine W_cd h (by kernel_rfl) (fun hx1 h => ?_) (fun hx1 h => ?_)
 refine Wd [(5, aB false)] [2, 3, 7, 17] [(6, .box 33 [aI .i64 a0.Room, aI .i64 a0.Cells, .t (.sl 4 (a0.L.map c_GApiObj))])] [2, 3] (qz 5 []) aN ?_
 refine W_ret ?_
 exact kre kr [] h
 refine W_skip ?_
 refine Wz [(8, .ref 1008)] [2, 3, 4, 6, 7] [k_ 2, k_ 3, k_ 4, k_ 6, (1008, some (.row 27 4 (([] : List GApiObj).map c_GApiObj)))] (cG [] [2, 3, 4, 6] [] [(20, 1008)] [] []) [q_, q_] aN ?_
 obtain ⟨z5_3, hz5_3, h⟩ := bind_ok h
 refine Wz [] [2, 3, 4, 6, 7, 8] [k_ 2, k_ 3, k_ 4, k_ 6, (1008, some (.row 27 4 (z5_3.map c_GApiObj)))] (cG [] [2, 3, 4, 6] [] [(24, 1008)] [] []) [q_, q_, q_, qn (.rows (z5_3.map c_GApiObj)), q_] (aC (apd_a c_GApiObj hz5_3) (aC (apd_r c_GApiObj hz5_3) aN)) ?_
 obtain ⟨z6_3, hz6_3, h⟩ := bind_ok h
 refine Wz [] [2, 3, 4, 6, 7, 8] [k_ 2, k_ 3, k_ 4, k_ 6, (1008, some (.row 27 4 (z6_3.map c_GApiObj)))] (cG [] [2, 3, 4, 6] [] [(28, 1008)] [] []) [q_, q_, q_, qn (.rows (z6_3.map c_GApiObj)), q_] (aC (apd_a c_GApiObj hz6_3) (aC (apd_r c_GApiObj hz6_3) aN)) ?_
 refine Wd [] [] [(2, .box 33 [aI .i64 a0.Room, aI .i64 a0.Cells, .ref 1008])] [] [q_, q_, q_] aN ?_
 refine Wd [] [7] [(2, .box 33 [aI .i64 a0.Room, aI .i64 (w64 (a0.Cells + r1_1)), .ref 1008])] [] (qz 6 []) aN ?_
 refine Wz [(5, aB true)] [4, 6] [(4, some (.box 46 [aI .u8 a1.Kind, aI .i64 (z6_3.length : Int), aI .i64 0, aI .i64 0])), (6, some (.box 33 [aI .i64 a0.Room, aI .i64 (w64 (a0.Cells + r1_1)), .ref 100602])), (100602, some (.row 27 4 (z6_3.map c_GApiObj)))] (cG [] [4, 6] [] [(1008, 100602)] [] []) [q_, q_, q_, qn (.len z6_3.length), q_, q_, q_, q_, q_] (aC (len_obx c_GApiObj z6_3) aN) ?_
 refine W_ret ?_
 exact kre kr [] h
def R_r11_H_Str (a0 : GR11H) (a1 : (List UInt8)) (r : (GApiValue × Bool × GR11H)) : Prop := FnP Try.prog 35 [e_GR11H a0, aS a1] (.tup [e_GApiValue r.1, aB r.2.1, e_GR11H r.2.2])
abbrev r11_H_Str_e (x : (GApiValue × Bool × GR11H)) : A := (.tup [e_GApiValue x.1, aB x.2.1, e_GR11H x.2.2])
noncomputable def r11_H_Str (a0 : GR11H) (a1 : (List UInt8)) : Option (GApiValue × Bool × GR11H) :=
  (if a1 = ([] : List UInt8) then (some ((GApiValue.mk 3 0 0 0), true, a0)) else ((r11_H_Add a0 (GApiObj.mk 3 0 a1 ([] : List GApiValue))).bind fun (r3_3 : (GApiValue × Bool × GR11H)) => (some (r3_3.1, r3_3.2.1, r3_3.2.2))))
theorem r11_H_Str_ok {a0 : GR11H} {a1 : (List UInt8)} {r_ : (GApiValue × Bool × GR11H)} (h : r11_H_Str a0 a1 = some r_) : R_r11_H_Str a0 a1 r_ := by
 unfold r11_H_Str at h
 refine fn_pureZ (enc := r11_H_Str_e) (by kernel_rfl) fun Q' kr kn => ?_
 refine Wd [(2, .ptr 2 0), (4, .ptr 4 0), (6, .ptr 6 0)] [0] [(2, .box 33 [aI .i64 a0.Room, aI .i64 a0.Cells, .t (.sl 4 (a0.L.map c_GApiObj))]), (4, .box 46 [aI .u8 0, aI .i64 0, aI .i64 0, aI .i64 0]), (6, .box 33 [aI .i64 0, aI .i64 0, aNil])] [] (qz 4 []) aN ?_
 refine W_seq ?_
 refine Wd [(8, aB (decide (a1 = ([] : List UInt8))))] [] [] [] [q_, qn (.val (.bool (decide (a1 = ([] : List UInt8)))))] (aC (str_eq_ob (P := Try.prog) 9 a1 ([] : List UInt8)) aN) ?_
 refine W_cd h (by kernel_rfl) (fun hx1 h => ?_) (fun hx1 h => ?_)
 refine Wd [(5, aB true)] [1, 2, 8] [(4, .box 46 [aI .u8 3, aI .i64 0, aI .i64 0, aI .i64 0]), (6, .box 33 [aI .i64 a0.Room, aI .i64 a0.Cells, .t (.sl 4 (a0.L.map c_GApiObj))])] [2] (qz 5 []) aN ?_
 refine W_ret ?_
 exact kre kr [] h
 refine W_skip ?_
 obtain ⟨r3_3, hr3_3, h⟩ := bindk r11_H_Add_ok h
 refine Wd [(5, aB r3_3.2.1)] [1, 2, 8] [(4, .box 46 (b_GApiValue r3_3.1)), (6, .box 33 [aI .i64 r3_3.2.2.Room, aI .i64 r3_3.2.2.Cells, .t (.sl 4 (r3_3.2.2.L.map c_GApiObj))])] [2] (q_ :: q_ :: q_ :: qn (.call [(1, 3, 4)] (.tup [e_GApiValue r3_3.1, aB r3_3.2.1, e_GR11H r3_3.2.2])) :: (qz 6 [])) (aC hr3_3 aN) ?_
 refine W_ret ?_
 exact kre kr [] h
def R_r11_H_List (a0 : GR11H) (a1 : Int) (a2 : Int) (a3 : GApiValue) (r : (GApiValue × Bool × GR11H)) : Prop := FnP Try.prog 36 [e_GR11H a0, aI .i64 a1, aI .i64 a2, e_GApiValue a3] (.tup [e_GApiValue r.1, aB r.2.1, e_GR11H r.2.2])
inductive r11_H_List_C where
  | l0 (a1 : Int) (a2 : Int) (v0_12_0 : Int) (a0 : GR11H) (a3 : GApiValue) (w0_1011 : (List GApiValue))
  | j1 (a1 : Int) (a0 : GR11H) (w0_1011 : (List GApiValue))
abbrev r11_H_List_C_T : r11_H_List_C → Type := fun _ => (GApiValue × Bool × GR11H)
noncomputable def r11_H_List_l0_b (g : (i : r11_H_List_C) → Option (r11_H_List_C_T i)) (a1 : Int) (a2 : Int) (v0_12_0 : Int) (a0 : GR11H) (a3 : GApiValue) (w0_1011 : (List GApiValue)) : Option (GApiValue × Bool × GR11H) :=
  (if v0_12_0 < a2 then ((appD 32 w0_1011 ([a3] : List GApiValue)).bind fun (z6_3 : List GApiValue) => g (.l0 a1 a2 (w64 (v0_12_0 + 1)) a0 a3 z6_3)) else g (.j1 a1 a0 w0_1011))
noncomputable def r11_H_List_j1_b (g : (i : r11_H_List_C) → Option (r11_H_List_C_T i)) (a1 : Int) (a0 : GR11H) (w0_1011 : (List GApiValue)) : Option (GApiValue × Bool × GR11H) :=
  ((r11_H_Add a0 (GApiObj.mk 7 a1 ([] : List UInt8) w0_1011)).bind fun (r8_4 : (GApiValue × Bool × GR11H)) => (some (r8_4.1, r8_4.2.1, r8_4.2.2)))
noncomputable def r11_H_List_B (g : (i : r11_H_List_C) → Option (r11_H_List_C_T i)) : (i : r11_H_List_C) → Option (r11_H_List_C_T i)
  | .l0 a1 a2 v0_12_0 a0 a3 w0_1011 => r11_H_List_l0_b g a1 a2 v0_12_0 a0 a3 w0_1011
  | .j1 a1 a0 w0_1011 => r11_H_List_j1_b g a1 a0 w0_1011
theorem r11_H_List_B_fin (i : r11_H_List_C) : Fin1 (fun g => r11_H_List_B g i) := by
 cases i
 all_goals (delta r11_H_List_B; dsimp only)
 unfold r11_H_List_l0_b; rotate_left
 unfold r11_H_List_j1_b; rotate_left
 all_goals repeat (first | refine fin_bind ?_ (fun _ => ?_) | refine fin_ite ?_ ?_ | refine fin_opt ?_ (fun _ => ?_) | exact fin_ask _ | exact fin_const _)
noncomputable def r11_H_List_l0 (a1 : Int) (a2 : Int) (v0_12_0 : Int) (a0 : GR11H) (a3 : GApiValue) (w0_1011 : (List GApiValue)) : Option (GApiValue × Bool × GR11H) := fixD r11_H_List_B (.l0 a1 a2 v0_12_0 a0 a3 w0_1011)
noncomputable def r11_H_List_j1 (a1 : Int) (a0 : GR11H) (w0_1011 : (List GApiValue)) : Option (GApiValue × Bool × GR11H) := fixD r11_H_List_B (.j1 a1 a0 w0_1011)
theorem r11_H_List_l0_eq (a1 : Int) (a2 : Int) (v0_12_0 : Int) (a0 : GR11H) (a3 : GApiValue) (w0_1011 : (List GApiValue)) : r11_H_List_l0 a1 a2 v0_12_0 a0 a3 w0_1011 =
  (if v0_12_0 < a2 then ((appD 32 w0_1011 ([a3] : List GApiValue)).bind fun (z6_3 : List GApiValue) => r11_H_List_l0 a1 a2 (w64 (v0_12_0 + 1)) a0 a3 z6_3) else r11_H_List_j1 a1 a0 w0_1011) := fix_eq r11_H_List_B_fin _
theorem r11_H_List_j1_eq (a1 : Int) (a0 : GR11H) (w0_1011 : (List GApiValue)) : r11_H_List_j1 a1 a0 w0_1011 =
  ((r11_H_Add a0 (GApiObj.mk 7 a1 ([] : List UInt8) w0_1011)).bind fun (r8_4 : (GApiValue × Bool × GR11H)) => (some (r8_4.1, r8_4.2.1, r8_4.2.2))) := fix_eq r11_H_List_B_fin _
abbrev r11_H_List_e (x : (GApiValue × Bool × GR11H)) : A := (.tup [e_GApiValue x.1, aB x.2.1, e_GR11H x.2.2])
def r11_H_List_l0_s (a1 : Int) (a2 : Int) (v0_12_0 : Int) (a0 : GR11H) (a3 : GApiValue) (w0_1011 : (List GApiValue)) : LS := LS.mk 43 [(1, aI .i64 a1), (2, aI .i64 a2), (4, .ptr 4 0), (7, .ptr 7 0), (8, .ptr 8 0), (10, .ptr 10 0), (11, .ref 1011), (12, aI .i64 v0_12_0)] [(4, some (.box 33 [aI .i64 a0.Room, aI .i64 a0.Cells, .t (.sl 4 (a0.L.map c_GApiObj))])), (7, some (.box 46 (b_GApiValue a3))), (8, some (.box 46 [aI .u8 0, aI .i64 0, aI .i64 0, aI .i64 0])), (10, some (.box 33 [aI .i64 0, aI .i64 0, aNil])), (1011, some (.row 46 4 (w0_1011.map c_GApiValue)))]
def r11_H_List_j1_s (a1 : Int) (a0 : GR11H) (w0_1011 : (List GApiValue)) : LS := LS.mk 43 [(1, aI .i64 a1), (4, .ptr 4 0), (8, .ptr 8 0), (10, .ptr 10 0), (11, .ref 1011)] [(4, some (.box 33 [aI .i64 a0.Room, aI .i64 a0.Cells, .t (.sl 4 (a0.L.map c_GApiObj))])), (8, some (.box 46 [aI .u8 0, aI .i64 0, aI .i64 0, aI .i64 0])), (10, some (.box 33 [aI .i64 0, aI .i64 0, aNil])), (1011, some (.row 46 4 (w0_1011.map c_GApiValue)))]
theorem r11_H_List_l0_ok (n : Nat)  (a1 : Int) (a2 : Int) (v0_12_0 : Int) (a0 : GR11H) (a3 : GApiValue) (w0_1011 : (List GApiValue)) (r_ : (GApiValue × Bool × GR11H)) (Q' : Exit → St → Prop) (kr : KR Try.prog 36 r11_H_List_e r_ .ret Q') (k_x_0 : ∀ (w0_1011 : (List GApiValue)), KX r11_H_List_B n (.j1 a1 a0 w0_1011) r_ (r11_H_List_j1_s a1 a0 w0_1011) (.exit 0) Q') (h : recN r11_H_List_B n (.l0 a1 a2 v0_12_0 a0 a3 w0_1011) = some r_) : W Try.prog (subC (bodyC Try.prog 36) [1, 1, 1, 0, 1, 0]) (r11_H_List_l0_s a1 a2 v0_12_0 a0 a3 w0_1011).st Q' := by
 refine W_fix (σ := Int × (List GApiValue)) (fun m x_ => m ≤ n ∧ recN r11_H_List_B m (.l0 a1 a2 x_.1 a0 a3 x_.2) = some r_) (fun x_ => r11_H_List_l0_s a1 a2 x_.1 a0 a3 x_.2) (fun x hx => by cases hx.2) (fun _ _ => rfl) ?_ n (v0_12_0, w0_1011) ⟨Nat.le_refl _, h⟩
 clear h
 rintro m ⟨v0_12_0, w0_1011⟩ ⟨hlt, h⟩
 replace h : r11_H_List_l0_b (recN r11_H_List_B m) a1 a2 v0_12_0 a0 a3 w0_1011 = some r_ := h
 unfold r11_H_List_l0_b at h
 refine W_seq ?_
 refine Wd [(28, aB (decide (v0_12_0 < a2)))] [] [] [] [q_, q_, q_] aN ?_
 refine W_cd h (by kernel_rfl) (fun hx1001 h => ?_) (fun hx1001 h => ?_)
 refine W_skip ?_
 refine W_seq ?_
 refine W_block ?_
 obtain ⟨z6_3, hz6_3, h⟩ := bind_ok h
 refine Wy [] [1, 2, 4, 7, 8, 10, 11, 12] [k_ 4, k_ 7, k_ 8, k_ 10, (1011, some (.row 46 4 (z6_3.map c_GApiValue)))] (cG [] [4, 7, 8, 10] [] [(34, 1011)] [] []) [q_, q_, q_, qn (.rows (z6_3.map c_GApiValue)), q_] (aC (apd_a c_GApiValue hz6_3) (aC (apd_r c_GApiValue hz6_3) aN)) ?_
 refine We [(12, aI .i64 (w64 (v0_12_0 + 1)))] [] [] [] [q_, q_, q_] aN ?_
 exact ⟨m, ((w64 (v0_12_0 + 1)), z6_3), Nat.le_refl _, ⟨Nat.le_of_lt hlt, h⟩, cvf (cB [4, 7, 8, 10] [1011] [1, 2, 4, 7, 8, 10, 11, 12])⟩
 refine W_exit ?_
 exact k_x_0 w0_1011 m hlt _ h (cvf (cB [4, 8, 10] [1011] [1, 4, 8, 10, 11]))
theorem r11_H_List_j1_ok (n : Nat)  (a1 : Int) (a0 : GR11H) (w0_1011 : (List GApiValue)) (r_ : (GApiValue × Bool × GR11H)) (Q' : Exit → St → Prop) (kr : KR Try.prog 36 r11_H_List_e r_ .ret Q')  (h : recN r11_H_List_B n (.j1 a1 a0 w0_1011) = some r_) : W Try.prog (subC (bodyC Try.prog 36) [1, 1, 1, 1]) (r11_H_List_j1_s a1 a0 w0_1011).st Q' := by
 rcases n with _ | m
 cases h
 have hlt := Nat.lt_succ_self m
 replace h : r11_H_List_j1_b (recN r11_H_List_B m) a1 a0 w0_1011 = some r_ := h
 unfold r11_H_List_j1_b at h
 obtain ⟨r8_4, hr8_4, h⟩ := bindk r11_H_Add_ok h
 refine Wd [(9, aB r8_4.2.1)] [1, 4, 11] [(8, .box 46 (b_GApiValue r8_4.1)), (10, .box 33 [aI .i64 r8_4.2.2.Room, aI .i64 r8_4.2.2.Cells, .t (.sl 4 (r8_4.2.2.L.map c_GApiObj))])] [4, 1011] (q_ :: q_ :: q_ :: q_ :: (none, [1011], .call [] (.tup [e_GApiValue r8_4.1, aB r8_4.2.1, e_GR11H r8_4.2.2])) :: (qz 6 [])) (aC hr8_4 aN) ?_
 refine W_ret ?_
 exact kre kr [] h
noncomputable def r11_H_List (a0 : GR11H) (a1 : Int) (a2 : Int) (a3 : GApiValue) : Option (GApiValue × Bool × GR11H) :=
  (if a1 < 0 then (some ((GApiValue.mk 0 0 0 0), false, a0)) else (if a2 < 0 then (some ((GApiValue.mk 0 0 0 0), false, a0)) else (if a2 > 65536 then (some ((GApiValue.mk 0 0 0 0), false, a0)) else r11_H_List_l0 a1 a2 0 a0 a3 ([] : List GApiValue))))
theorem r11_H_List_ok {a0 : GR11H} {a1 : Int} {a2 : Int} {a3 : GApiValue} {r_ : (GApiValue × Bool × GR11H)} (h : r11_H_List a0 a1 a2 a3 = some r_) : R_r11_H_List a0 a1 a2 a3 r_ := by
 unfold r11_H_List at h
 refine fn_pureZ (enc := r11_H_List_e) (by kernel_rfl) fun Q' kr kn => ?_
 refine Wd [(4, .ptr 4 0), (7, .ptr 7 0), (8, .ptr 8 0), (10, .ptr 10 0)] [0, 3] [(4, .box 33 [aI .i64 a0.Room, aI .i64 a0.Cells, .t (.sl 4 (a0.L.map c_GApiObj))]), (7, .box 46 (b_GApiValue a3)), (8, .box 46 [aI .u8 0, aI .i64 0, aI .i64 0, aI .i64 0]), (10, .box 33 [aI .i64 0, aI .i64 0, aNil])] [] (qz 5 []) aN ?_
 refine W_seq ?_
 refine if_c h (fun hx1 h => ?_) (fun hx1 h => ?_)
 refine Wd [(22, aB true)] [] [] [] [q_, q_, q_, qt0, qt0, qn (.dec true), q_, q_, q_, q_] (aC hx1 (aC hx1 (aC hx1 aN))) ?_
 refine W_ct (e := true) rfl (by kernel_rfl) ?_
 refine Wd [(9, aB false)] [1, 2, 4, 7, 22] [(10, .box 33 [aI .i64 a0.Room, aI .i64 a0.Cells, .t (.sl 4 (a0.L.map c_GApiObj))])] [4, 7] (qz 5 []) aN ?_
 refine W_ret ?_
 exact kre kr [] h
 refine if_c h (fun hx2 h => ?_) (fun hx2 h => ?_)
 refine Wd [(22, aB true)] [] [] [] [q_, q_, q_, qf0, qf0, qn (.dec false), q_, qt0, qt0, qn (.dec true)] (aC hx1 (aC hx1 (aC hx1 (aC hx2 (aC hx2 (aC hx2 aN)))))) ?_
 refine W_ct (e := true) rfl (by kernel_rfl) ?_
 refine Wd [(9, aB false)] [1, 2, 4, 7, 22] [(10, .box 33 [aI .i64 a0.Room, aI .i64 a0.Cells, .t (.sl 4 (a0.L.map c_GApiObj))])] [4, 7] (qz 5 []) aN ?_
 refine W_ret ?_
 exact kre kr [] h
 refine Wd [(22, aB (decide (a2 > 65536)))] [] [] [] [q_, q_, q_, qf0, qf0, qn (.dec false), q_, qf0, qf0, qn (.dec false)] (aC hx1 (aC hx1 (aC hx1 (aC hx2 (aC hx2 (aC hx2 aN)))))) ?_
 refine W_cd h (by kernel_rfl) (fun hx3 h => ?_) (fun hx3 h => ?_)
 refine Wd [(9, aB false)] [1, 2, 4, 7, 22] [(10, .box 33 [aI .i64 a0.Room, aI .i64 a0.Cells, .t (.sl 4 (a0.L.map c_GApiObj))])] [4, 7] (qz 5 []) aN ?_
 refine W_ret ?_
 exact kre kr [] h
 refine W_skip ?_
 refine Wz [(11, .ref 1011)] [1, 2, 4, 7, 8, 10] [k_ 4, k_ 7, k_ 8, k_ 10, (1011, some (.row 46 4 (([] : List GApiValue).map c_GApiValue)))] (cG [] [4, 7, 8, 10] [] [(25, 1011)] [] []) [q_, q_] aN ?_
 refine W_seq ?_
 refine Wd [(12, aI .i64 0)] [] [] [] [q_] aN ?_
 refine W_block ?_
 obtain ⟨n, h⟩ := fix_rec h
 exact Wc (cB [4, 7, 8, 10] [1011] [1, 2, 4, 7, 8, 10, 11, 12]) (r11_H_List_l0_ok n a1 a2 0 a0 a3 ([] : List GApiValue) r_ _ kr (fun w0_1011 q1 hq1 s' h hf => W_pre hf (r11_H_List_j1_ok q1 a1 a0 w0_1011 r_ _ kr h)) h)
def R_r11_H_Rec (a0 : GR11H) (a1 : Int) (a2 : (List GApiValue)) (r : (GApiValue × Bool × GR11H)) : Prop := FnP Try.prog 37 [e_GR11H a0, aI .i64 a1, .t (.sl 4 (a2.map c_GApiValue))] (.tup [e_GApiValue r.1, aB r.2.1, e_GR11H r.2.2])
abbrev r11_H_Rec_e (x : (GApiValue × Bool × GR11H)) : A := (.tup [e_GApiValue x.1, aB x.2.1, e_GR11H x.2.2])
noncomputable def r11_H_Rec (a0 : GR11H) (a1 : Int) (a2 : (List GApiValue)) : Option (GApiValue × Bool × GR11H) :=
  (if a1 < 0 then (some ((GApiValue.mk 0 0 0 0), false, a0)) else ((appD 32 ([] : List GApiValue) a2).bind fun (z4_2 : List GApiValue) => ((r11_H_Add a0 (GApiObj.mk 6 a1 ([] : List UInt8) z4_2)).bind fun (r5_4 : (GApiValue × Bool × GR11H)) => (some (r5_4.1, r5_4.2.1, r5_4.2.2)))))
theorem r11_H_Rec_ok {a0 : GR11H} {a1 : Int} {a2 : (List GApiValue)} {r_ : (GApiValue × Bool × GR11H)} (h : r11_H_Rec a0 a1 a2 = some r_) : R_r11_H_Rec a0 a1 a2 r_ := by
 unfold r11_H_Rec at h
 refine fn_pureZ (enc := r11_H_Rec_e) (by kernel_rfl) fun Q' kr kn => ?_
 refine Wd [(3, .ptr 3 0), (6, .ptr 6 0), (8, .ptr 8 0)] [0] [(3, .box 33 [aI .i64 a0.Room, aI .i64 a0.Cells, .t (.sl 4 (a0.L.map c_GApiObj))]), (6, .box 46 [aI .u8 0, aI .i64 0, aI .i64 0, aI .i64 0]), (8, .box 33 [aI .i64 0, aI .i64 0, aNil])] [] (qz 4 []) aN ?_
 refine W_seq ?_
 refine Wd [(11, aB (decide (a1 < 0)))] [] [] [] [q_, q_] aN ?_
 refine W_cd h (by kernel_rfl) (fun hx1 h => ?_) (fun hx1 h => ?_)
 refine Wd [(7, aB false)] [1, 2, 3, 11] [(8, .box 33 [aI .i64 a0.Room, aI .i64 a0.Cells, .t (.sl 4 (a0.L.map c_GApiObj))])] [3] (qz 5 []) aN ?_
 refine W_ret ?_
 exact kre kr [] h
 refine W_skip ?_
 refine Wz [(9, .ref 1009)] [1, 2, 3, 6, 8] [k_ 3, k_ 6, k_ 8, (1009, some (.row 46 4 (([] : List GApiValue).map c_GApiValue)))] (cG [] [3, 6, 8] [] [(14, 1009)] [] []) [q_, q_] aN ?_
 obtain ⟨z4_2, hz4_2, h⟩ := bind_ok h
 refine Wz [] [1, 3, 6, 8, 9] [k_ 3, k_ 6, k_ 8, (1009, some (.row 46 4 (z4_2.map c_GApiValue)))] (cG [] [3, 6, 8] [] [(17, 1009)] [] []) [q_, q_, qn (.rows (z4_2.map c_GApiValue)), q_] (aC (apd_a c_GApiValue hz4_2) (aC (apd_r c_GApiValue hz4_2) aN)) ?_
 obtain ⟨r5_4, hr5_4, h⟩ := bindk r11_H_Add_ok h
 refine Wd [(7, aB r5_4.2.1)] [1, 3, 9] [(6, .box 46 (b_GApiValue r5_4.1)), (8, .box 33 [aI .i64 r5_4.2.2.Room, aI .i64 r5_4.2.2.Cells, .t (.sl 4 (r5_4.2.2.L.map c_GApiObj))])] [3, 1009] (q_ :: q_ :: q_ :: q_ :: (none, [1009], .call [] (.tup [e_GApiValue r5_4.1, aB r5_4.2.1, e_GR11H r5_4.2.2])) :: (qz 6 [])) (aC hr5_4 aN) ?_
 refine W_ret ?_
 exact kre kr [] h
def R_r11_H_Names (a0 : GR11H) (a1 : GApiValue) (r : Bool) : Prop := FnP Try.prog 42 [e_GR11H a0, e_GApiValue a1] (aB r)
abbrev r11_H_Names_e (x : Bool) : A := (aB x)
noncomputable def r11_H_Names (a0 : GR11H) (a1 : GApiValue) : Option Bool :=
  (if a1.N ≥ 1 then (if a1.N ≤ (a0.L.length : Int) then ((getI a0.L (w64 (a1.N - 1))).bind fun (x1_17 : GApiObj) => (some (decide (x1_17.Kind = a1.Kind)))) else (some false)) else (some false))
theorem r11_H_Names_ok {a0 : GR11H} {a1 : GApiValue} {r_ : Bool} (h : r11_H_Names a0 a1 = some r_) : R_r11_H_Names a0 a1 r_ := by
 unfold r11_H_Names at h
 refine fn_pureZ (enc := r11_H_Names_e) (by kernel_rfl) fun Q' kr kn => ?_
 refine Wd [(2, .ptr 2 0), (3, .ptr 3 0)] [0, 1] [(2, .box 33 [aI .i64 a0.Room, aI .i64 a0.Cells, .t (.sl 4 (a0.L.map c_GApiObj))]), (3, .box 46 (b_GApiValue a1))] [] [q_, q_, q_] aN ?_
 refine if_c h (fun hx1 h => ?_) (fun hx1 h => ?_)
 refine if_c h (fun hx2 h => ?_) (fun hx2 h => ?_)
 obtain ⟨x1_17, hx1_17, h⟩ := bind_ok h
 refine Wd [(4, aB (decide (x1_17.Kind = a1.Kind)))] [2, 3] [] [2, 3] [q_, q_, q_, q_, qt0, qt0, qt0, qt0, qt (.len a0.L.length), qt0, qn (.dec true), q_, qt0, qt0, qt0, qt0, qt0, qt (.ix (Int.toNat (w64 (a1.N - 1))) (c_GApiObj x1_17)), qt0, qt0, qt0, qt0, qt0, qn (.dec true), q_] (aC hx1 (aC hx1 (aC hx1 (aC hx1 (aC hx1 (aC (len_obx c_GApiObj a0.L) (aC hx1 (aC hx1 (aC hx2 (aC hx2 (aC hx2 (aC hx2 (aC hx2 (aC hx2 (aC (ix_obx c_GApiObj hx1_17) (aC hx2 (aC hx2 (aC hx2 (aC hx2 (aC hx2 (aC hx2 aN))))))))))))))))))))) ?_
 refine W_ret ?_
 exact kre kr [] h
 refine Wd [(4, aB false)] [2, 3] [] [2, 3] [q_, q_, q_, q_, qt0, qt0, qt0, qt0, qt (.len a0.L.length), qt0, qn (.dec true), q_, qf0, qf0, qf0, qf0, qf0, qf0, qf0, qf0, qf0, qf0, qf0, qn (.dec false), q_] (aC hx1 (aC hx1 (aC hx1 (aC hx1 (aC hx1 (aC (len_obx c_GApiObj a0.L) (aC hx1 (aC hx1 (aC hx2 (aC hx2 (aC hx2 (aC hx2 (aC hx2 (aC hx2 (aC hx2 (aC hx2 (aC hx2 (aC hx2 (aC hx2 (aC hx2 aN)))))))))))))))))))) ?_
 refine W_ret ?_
 exact kre kr [] h
 refine Wd [(4, aB false)] [2, 3] [] [2, 3] (q_ :: q_ :: q_ :: q_ :: qf0 :: qf0 :: qf0 :: qf0 :: qf0 :: qf0 :: qn (.dec false) :: (qz 14 [])) (aC hx1 (aC hx1 (aC hx1 (aC hx1 (aC hx1 (aC hx1 (aC hx1 aN))))))) ?_
 refine W_ret ?_
 exact kre kr [] h
def R_r11_H_Put (a0 : GR11H) (a1 : GApiValue) (a2 : Int) (a3 : GApiValue) (r : (Int × GR11H)) : Prop := FnP Try.prog 38 [e_GR11H a0, e_GApiValue a1, aI .i64 a2, e_GApiValue a3] (.tup [aI .i64 r.1, e_GR11H r.2])
abbrev r11_H_Put_e (x : (Int × GR11H)) : A := (.tup [aI .i64 x.1, e_GR11H x.2])
noncomputable def r11_H_Put (a0 : GR11H) (a1 : GApiValue) (a2 : Int) (a3 : GApiValue) : Option (Int × GR11H) :=
  (if a1.Kind = 3 then (some (3, a0)) else ((r11_H_Names a0 a1).bind fun (r1_6 : Bool) => (if r1_6 = true then ((getI a0.L (w64 (a1.N - 1))).bind fun (x3_5 : GApiObj) => (if a2 < 0 then (some (2, a0)) else (if a2 ≥ (x3_5.Vals.length : Int) then (some (2, a0)) else ((appD 32 ([] : List GApiValue) x3_5.Vals).bind fun (z7_3 : List GApiValue) => ((getI z7_3 a2).bind fun (x8_3 : GApiValue) => ((setD z7_3 a2 a3).bind fun (z8_4 : List GApiValue) => ((appD 56 ([] : List GApiObj) a0.L).bind fun (z11_3 : List GApiObj) => ((getI z11_3 (w64 (a1.N - 1))).bind fun (x12_5 : GApiObj) => ((setD z11_3 (w64 (a1.N - 1)) (GApiObj.mk x3_5.Kind x3_5.Of x3_5.Text z8_4)).bind fun (z12_6 : List GApiObj) => (some (0, (GR11H.mk a0.Room a0.Cells z12_6)))))))))))) else (some (3, a0)))))
theorem r11_H_Put_ok {a0 : GR11H} {a1 : GApiValue} {a2 : Int} {a3 : GApiValue} {r_ : (Int × GR11H)} (h : r11_H_Put a0 a1 a2 a3 = some r_) : R_r11_H_Put a0 a1 a2 a3 r_ := by
 unfold r11_H_Put at h
 refine fn_pureZ (enc := r11_H_Put_e) (by kernel_rfl) fun Q' kr kn => ?_
 refine Wd [(4, .ptr 4 0), (5, .ptr 5 0), (7, .ptr 7 0), (9, .ptr 9 0)] [0, 1, 3] [(4, .box 33 [aI .i64 a0.Room, aI .i64 a0.Cells, .t (.sl 4 (a0.L.map c_GApiObj))]), (5, .box 46 (b_GApiValue a1)), (7, .box 46 (b_GApiValue a3)), (9, .box 33 [aI .i64 0, aI .i64 0, aNil])] [] (qz 5 []) aN ?_
 refine W_seq ?_
 refine if_c h (fun hx1 h => ?_) (fun hx1 h => ?_)
 refine Wd [(21, aB true)] [] [] [] [q_, q_, q_, q_, qt0, qt0, qt0, qt0, qn (.dec true)] (aC hx1 (aC hx1 (aC hx1 (aC hx1 (aC hx1 aN))))) ?_
 refine W_ct (e := true) rfl (by kernel_rfl) ?_
 refine Wd [(8, aI .i64 3)] [2, 4, 5, 7, 21] [(9, .box 33 [aI .i64 a0.Room, aI .i64 a0.Cells, .t (.sl 4 (a0.L.map c_GApiObj))])] [4, 5, 7] [q_, q_, q_] aN ?_
 refine W_ret ?_
 exact kre kr [] h
 obtain ⟨r1_6, hr1_6, h⟩ := bindk r11_H_Names_ok h
 refine Wd [(21, aB (!r1_6))] [] [] [] [q_, q_, q_, q_, qf0, qf0, qf (.call [] (aB r1_6)), qf0, qn (.dec false)] (aC hx1 (aC hx1 (aC hx1 (aC hr1_6 (aC hx1 (aC hx1 aN)))))) ?_
 refine W_cbn h (by kernel_rfl) (fun hx2 h => ?_) (fun hx2 h => ?_)
 refine W_skip ?_
 obtain ⟨x3_5, hx3_5, h⟩ := bind_ok h
 refine Wd [(10, .ptr 10 0)] [21] [(10, .box 27 (b_GApiObj x3_5))] [] [q_, q_, q_, q_, q_, qn (.ix (Int.toNat (w64 (a1.N - 1))) (c_GApiObj x3_5)), q_, q_, q_] (aC (ix_obx c_GApiObj hx3_5) aN) ?_
 refine W_seq ?_
 refine if_c h (fun hx3 h => ?_) (fun hx3 h => ?_)
 refine Wd [(38, aB true)] [] [] [] [q_, q_, q_, qt0, qt0, qt0, qt0, qt0, qn (.dec true)] (aC hx3 (aC hx3 (aC hx3 (aC hx3 (aC hx3 (aC hx3 aN)))))) ?_
 refine W_ct (e := true) rfl (by kernel_rfl) ?_
 refine Wd [(8, aI .i64 2)] [2, 4, 5, 7, 10, 38] [(9, .box 33 [aI .i64 a0.Room, aI .i64 a0.Cells, .t (.sl 4 (a0.L.map c_GApiObj))])] [4, 5, 7, 10] [q_, q_, q_] aN ?_
 refine W_ret ?_
 exact kre kr [] h
 refine Wd [(38, aB (decide (a2 ≥ (x3_5.Vals.length : Int))))] [] [] [] [q_, q_, q_, qf0, qf0, qf0, qf (.len x3_5.Vals.length), qf0, qn (.dec false)] (aC hx3 (aC hx3 (aC hx3 (aC hx3 (aC (len_obx c_GApiValue x3_5.Vals) (aC hx3 (aC hx3 aN))))))) ?_
 refine W_cd h (by kernel_rfl) (fun hx4 h => ?_) (fun hx4 h => ?_)
 refine Wd [(8, aI .i64 2)] [2, 4, 5, 7, 10, 38] [(9, .box 33 [aI .i64 a0.Room, aI .i64 a0.Cells, .t (.sl 4 (a0.L.map c_GApiObj))])] [4, 5, 7, 10] [q_, q_, q_] aN ?_
 refine W_ret ?_
 exact kre kr [] h
 refine W_skip ?_
 refine Wz [(11, .ref 1011)] [2, 4, 5, 7, 9, 10] [k_ 4, k_ 5, k_ 7, k_ 9, k_ 10, (1011, some (.row 46 4 (([] : List GApiValue).map c_GApiValue)))] (cG [] [4, 5, 7, 9, 10] [] [(40, 1011)] [] []) [q_, q_] aN ?_
 obtain ⟨z7_3, hz7_3, h⟩ := bind_ok h
 refine Wz [] [2, 4, 5, 7, 9, 10, 11] [k_ 4, k_ 5, k_ 7, k_ 9, k_ 10, (1011, some (.row 46 4 (z7_3.map c_GApiValue)))] (cG [] [4, 5, 7, 9, 10] [] [(44, 1011)] [] []) [q_, q_, q_, qn (.rows (z7_3.map c_GApiValue)), q_] (aC (apd_a c_GApiValue hz7_3) (aC (apd_r c_GApiValue hz7_3) aN)) ?_
 obtain ⟨x8_3, hx8_3, h⟩ := bind_ok h
 obtain ⟨z8_4, hz8_4, h⟩ := bind_ok h
 refine Wd [] [2, 7] [(1011, .row 46 4 (z8_4.map c_GApiValue))] [7] [q_, q_, q_, qn (.ix (Int.toNat a2) (c_GApiValue x8_3)), qn (.set (c_GApiValue x8_3) (z8_4.map c_GApiValue))] (aC (ix_obx c_GApiValue hx8_3) (aC (el_obx c_GApiValue hx8_3) (aC (std_r c_GApiValue hz8_4) aN))) ?_
 refine Wz [] [4, 5, 9, 10] [k_ 4, k_ 5, k_ 9, (10, some (.box 27 (bo0 101000 x3_5))), (101003, some (.row 46 4 (z8_4.map c_GApiValue)))] (cG [] [4, 5, 9, 10] [] [(1011, 101003)] [] []) [q_, q_, q_] aN ?_
 refine Wz [(12, .ref 1012)] [4, 5, 9, 10] [k_ 4, k_ 5, k_ 9, k_ 10, (1012, some (.row 27 4 (([] : List GApiObj).map c_GApiObj))), k_ 101003] (cG [] [4, 5, 9, 10] [] [(51, 1012), (101003, 101003)] [] []) [q_, q_] aN ?_
 obtain ⟨z11_3, hz11_3, h⟩ := bind_ok h
 refine Wz [] [4, 5, 9, 10, 12] [k_ 4, k_ 5, k_ 9, k_ 10, (1012, some (.row 27 4 (z11_3.map c_GApiObj))), k_ 101003] (cG [] [4, 5, 9, 10] [] [(55, 1012), (101003, 101003)] [] []) [q_, q_, q_, qn (.rows (z11_3.map c_GApiObj)), q_] (aC (apd_a c_GApiObj hz11_3) (aC (apd_r c_GApiObj hz11_3) aN)) ?_
 obtain ⟨x12_5, hx12_5, h⟩ := bind_ok h
 obtain ⟨z12_6, hz12_6, h⟩ := bind_ok h
 refine Wd [] [5, 10] [(1012, .row 27 4 (z12_6.map c_GApiObj))] [5, 10, 101003] [q_, q_, q_, q_, q_, qn (.ix (Int.toNat (w64 (a1.N - 1))) (c_GApiObj x12_5)), (none, [101003], .set (c_GApiObj x12_5) (z12_6.map c_GApiObj))] (aC (ix_obx c_GApiObj hx12_5) (aC (el_obx c_GApiObj hx12_5) (aC (std_r c_GApiObj hz12_6) aN))) ?_
 refine Wz [] [4, 9] [(4, some (.box 33 [aI .i64 a0.Room, aI .i64 a0.Cells, .ref 100402])), k_ 9, (100402, some (.row 27 4 (z12_6.map c_GApiObj)))] (cG [] [4, 9] [] [(1012, 100402)] [] []) [q_, q_, q_] aN ?_
 refine Wz [(8, aI .i64 0)] [9] [(9, some (.box 33 [aI .i64 a0.Room, aI .i64 a0.Cells, .ref 100902])), (100902, some (.row 27 4 (z12_6.map c_GApiObj)))] (cG [] [9] [] [(100402, 100902)] [] []) [q_, q_, q_] aN ?_
 refine W_ret ?_
 exact kre kr [] h
 refine Wd [(8, aI .i64 3)] [2, 4, 5, 7, 21] [(9, .box 33 [aI .i64 a0.Room, aI .i64 a0.Cells, .t (.sl 4 (a0.L.map c_GApiObj))])] [4, 5, 7] [q_, q_, q_] aN ?_
 refine W_ret ?_
 exact kre kr [] h
def R_r11_H_Text (a0 : GR11H) (a1 : GApiValue) (r : ((List UInt8) × Bool)) : Prop := FnP Try.prog 39 [e_GR11H a0, e_GApiValue a1] (.tup [aS r.1, aB r.2])
abbrev r11_H_Text_e (x : ((List UInt8) × Bool)) : A := (.tup [aS x.1, aB x.2])
noncomputable def r11_H_Text (a0 : GR11H) (a1 : GApiValue) : Option ((List UInt8) × Bool) :=
  (if a1.Kind = 3 then (if a1.N = 0 then (some (([] : List UInt8), true)) else ((r11_H_Names a0 a1).bind fun (r5_2 : Bool) => (if r5_2 = true then ((getI a0.L (w64 (a1.N - 1))).bind fun (x7_5 : GApiObj) => (some (x7_5.Text, true))) else (some (([] : List UInt8), false))))) else (some (([] : List UInt8), false)))
theorem r11_H_Text_ok {a0 : GR11H} {a1 : GApiValue} {r_ : ((List UInt8) × Bool)} (h : r11_H_Text a0 a1 = some r_) : R_r11_H_Text a0 a1 r_ := by
 unfold r11_H_Text at h
 refine fn_pureZ (enc := r11_H_Text_e) (by kernel_rfl) fun Q' kr kn => ?_
 refine Wd [(2, .ptr 2 0), (3, .ptr 3 0)] [0, 1] [(2, .box 33 [aI .i64 a0.Room, aI .i64 a0.Cells, .t (.sl 4 (a0.L.map c_GApiObj))]), (3, .box 46 (b_GApiValue a1))] [] (qz 4 []) aN ?_
 refine W_seq ?_
 refine Wd [(8, aB (!(decide (a1.Kind = 3))))] [] [] [] [q_, q_, q_] aN ?_
 refine W_cdn h (by kernel_rfl) (fun hx1 h => ?_) (fun hx1 h => ?_)
 refine W_skip ?_
 refine W_seq ?_
 refine Wd [(11, aB (decide (a1.N = 0)))] [8] [] [] [q_, q_, q_] aN ?_
 refine W_cd h (by kernel_rfl) (fun hx2 h => ?_) (fun hx2 h => ?_)
 refine Wd [(4, aS ([] : List UInt8)), (5, aB true)] [2, 3, 11] [] [2, 3] [q_, q_] aN ?_
 refine W_ret ?_
 exact kre kr [] h
 refine W_skip ?_
 refine W_seq ?_
 obtain ⟨r5_2, hr5_2, h⟩ := bindk r11_H_Names_ok h
 refine Wd [(15, aB (!r5_2))] [11] [] [] [q_, q_, qn (.call [] (aB r5_2)), q_] (aC hr5_2 aN) ?_
 refine W_cbn h (by kernel_rfl) (fun hx3 h => ?_) (fun hx3 h => ?_)
 refine W_skip ?_
 obtain ⟨x7_5, hx7_5, h⟩ := bind_ok h
 refine Wd [(4, aS x7_5.Text), (5, aB true)] [2, 3, 15] [] [2, 3] [q_, q_, q_, q_, q_, qn (.ix (Int.toNat (w64 (a1.N - 1))) (c_GApiObj x7_5)), q_, q_, q_, q_] (aC (ix_obx c_GApiObj hx7_5) aN) ?_
 refine W_ret ?_
 exact kre kr [] h
 refine Wd [(4, aS ([] : List UInt8)), (5, aB false)] [2, 3, 15] [] [2, 3] [q_, q_] aN ?_
 refine W_ret ?_
 exact kre kr [] h
 refine Wd [(4, aS ([] : List UInt8)), (5, aB false)] [2, 3, 8] [] [2, 3] [q_, q_] aN ?_
 refine W_ret ?_
 exact kre kr [] h
def R_r11_H_Size (a0 : GR11H) (a1 : GApiValue) (r : (Int × Int)) : Prop := FnP Try.prog 40 [e_GR11H a0, e_GApiValue a1] (.tup [aI .i64 r.1, aI .i64 r.2])
abbrev r11_H_Size_e (x : (Int × Int)) : A := (.tup [aI .i64 x.1, aI .i64 x.2])
noncomputable def r11_H_Size (a0 : GR11H) (a1 : GApiValue) : Option (Int × Int) :=
  ((r11_H_Text a0 a1).bind fun (r1_2 : ((List UInt8) × Bool)) => (if r1_2.2 = true then (some ((r1_2.1.length : Int), 0)) else ((r11_H_Names a0 a1).bind fun (r4_2 : Bool) => (if r4_2 = true then ((getI a0.L (w64 (a1.N - 1))).bind fun (x6_5 : GApiObj) => (some ((x6_5.Vals.length : Int), 0))) else (some (0, 3))))))
theorem r11_H_Size_ok {a0 : GR11H} {a1 : GApiValue} {r_ : (Int × Int)} (h : r11_H_Size a0 a1 = some r_) : R_r11_H_Size a0 a1 r_ := by
 unfold r11_H_Size at h
 refine fn_pureZ (enc := r11_H_Size_e) (by kernel_rfl) fun Q' kr kn => ?_
 refine Wd [(2, .ptr 2 0), (3, .ptr 3 0)] [0, 1] [(2, .box 33 [aI .i64 a0.Room, aI .i64 a0.Cells, .t (.sl 4 (a0.L.map c_GApiObj))]), (3, .box 46 (b_GApiValue a1))] [] (qz 4 []) aN ?_
 obtain ⟨r1_2, hr1_2, h⟩ := bindk r11_H_Text_ok h
 refine Wd [(6, aS r1_2.1), (7, aB r1_2.2)] [] [] [] [q_, q_, qn (.call [] (.tup [aS r1_2.1, aB r1_2.2])), q_, q_, q_, q_, q_] (aC hr1_2 aN) ?_
 refine W_seq ?_
 refine Wd [(14, aB r1_2.2)] [7] [] [] [q_] aN ?_
 refine W_cb h (by kernel_rfl) (fun hx1 h => ?_) (fun hx1 h => ?_)
 refine Wd [(4, aI .i64 (r1_2.1.length : Int)), (5, aI .i64 0)] [2, 3, 6, 14] [] [2, 3] (qz 4 []) aN ?_
 refine W_ret ?_
 exact kre kr [] h
 refine W_skip ?_
 refine W_seq ?_
 obtain ⟨r4_2, hr4_2, h⟩ := bindk r11_H_Names_ok h
 refine Wd [(20, aB (!r4_2))] [6, 14] [] [] [q_, q_, qn (.call [] (aB r4_2)), q_] (aC hr4_2 aN) ?_
 refine W_cbn h (by kernel_rfl) (fun hx2 h => ?_) (fun hx2 h => ?_)
 refine W_skip ?_
 obtain ⟨x6_5, hx6_5, h⟩ := bind_ok h
 refine Wd [(4, aI .i64 (x6_5.Vals.length : Int)), (5, aI .i64 0)] [2, 3, 20] [] [2, 3] [q_, q_, q_, q_, q_, qn (.ix (Int.toNat (w64 (a1.N - 1))) (c_GApiObj x6_5)), q_, q_, qn (.len x6_5.Vals.length), q_, q_] (aC (ix_obx c_GApiObj hx6_5) (aC (len_obx c_GApiValue x6_5.Vals) aN)) ?_
 refine W_ret ?_
 exact kre kr [] h
 refine Wd [(4, aI .i64 0), (5, aI .i64 3)] [2, 3, 20] [] [2, 3] [q_, q_] aN ?_
 refine W_ret ?_
 exact kre kr [] h
def R_r11_H_Get (a0 : GR11H) (a1 : GApiValue) (a2 : Int) (r : (GApiValue × Int)) : Prop := FnP Try.prog 41 [e_GR11H a0, e_GApiValue a1, aI .i64 a2] (.tup [e_GApiValue r.1, aI .i64 r.2])
abbrev r11_H_Get_e (x : (GApiValue × Int)) : A := (.tup [e_GApiValue x.1, aI .i64 x.2])
noncomputable def r11_H_Get (a0 : GR11H) (a1 : GApiValue) (a2 : Int) : Option (GApiValue × Int) :=
  ((r11_H_Size a0 a1).bind fun (r1_2 : (Int × Int)) => (if r1_2.2 = 0 then (if a2 < 0 then (some ((GApiValue.mk 0 0 0 0), 2)) else (if a2 ≥ r1_2.1 then (some ((GApiValue.mk 0 0 0 0), 2)) else ((r11_H_Text a0 a1).bind fun (r6_2 : ((List UInt8) × Bool)) => (if r6_2.2 = true then ((getI r6_2.1 a2).bind fun (x8_2 : UInt8) => (some ((GApiValue.mk 1 (w64 (x8_2.toNat : Int)) 0 0), 0))) else ((getI a0.L (w64 (a1.N - 1))).bind fun (x9_5 : GApiObj) => ((getI x9_5.Vals a2).bind fun (x9_9 : GApiValue) => (some (x9_9, 0)))))))) else (some ((GApiValue.mk 0 0 0 0), r1_2.2))))
theorem r11_H_Get_ok {a0 : GR11H} {a1 : GApiValue} {a2 : Int} {r_ : (GApiValue × Int)} (h : r11_H_Get a0 a1 a2 = some r_) : R_r11_H_Get a0 a1 a2 r_ := by
 unfold r11_H_Get at h
 refine fn_pureZ (enc := r11_H_Get_e) (by kernel_rfl) fun Q' kr kn => ?_
 refine Wd [(3, .ptr 3 0), (4, .ptr 4 0), (6, .ptr 6 0)] [0, 1] [(3, .box 33 [aI .i64 a0.Room, aI .i64 a0.Cells, .t (.sl 4 (a0.L.map c_GApiObj))]), (4, .box 46 (b_GApiValue a1)), (6, .box 46 [aI .u8 0, aI .i64 0, aI .i64 0, aI .i64 0])] [] (qz 4 []) aN ?_
 obtain ⟨r1_2, hr1_2, h⟩ := bindk r11_H_Size_ok h
 refine Wd [(8, aI .i64 r1_2.1), (9, aI .i64 r1_2.2)] [] [] [] [q_, q_, qn (.call [] (.tup [aI .i64 r1_2.1, aI .i64 r1_2.2])), q_, q_, q_, q_, q_] (aC hr1_2 aN) ?_
 refine W_seq ?_
 refine Wd [(19, aB (!(decide (r1_2.2 = 0))))] [] [] [] [q_, q_] aN ?_
 refine W_cdn h (by kernel_rfl) (fun hx1 h => ?_) (fun hx1 h => ?_)
 refine W_skip ?_
 refine W_seq ?_
 refine if_c h (fun hx2 h => ?_) (fun hx2 h => ?_)
 refine Wd [(28, aB true)] [8, 9, 19] [] [] [q_, q_, q_, qt0, qt0, qt0, qn (.dec true)] (aC hx2 (aC hx2 (aC hx2 (aC hx2 aN)))) ?_
 refine W_ct (e := true) rfl (by kernel_rfl) ?_
 refine Wd [(7, aI .i64 2)] [2, 3, 4, 28] [] [3, 4] [q_, q_, q_] aN ?_
 refine W_ret ?_
 exact kre kr [] h
 refine Wd [(28, aB (decide (a2 ≥ r1_2.1)))] [8, 9, 19] [] [] [q_, q_, q_, qf0, qf0, qf0, qn (.dec false)] (aC hx2 (aC hx2 (aC hx2 (aC hx2 aN)))) ?_
 refine W_cd h (by kernel_rfl) (fun hx3 h => ?_) (fun hx3 h => ?_)
 refine Wd [(7, aI .i64 2)] [2, 3, 4, 28] [] [3, 4] [q_, q_, q_] aN ?_
 refine W_ret ?_
 exact kre kr [] h
 refine W_skip ?_
 obtain ⟨r6_2, hr6_2, h⟩ := bindk r11_H_Text_ok h
 refine Wd [(10, aS r6_2.1), (11, aB r6_2.2)] [28] [] [] [q_, q_, qn (.call [] (.tup [aS r6_2.1, aB r6_2.2])), q_, q_, q_, q_, q_] (aC hr6_2 aN) ?_
 refine W_seq ?_
 refine Wd [(36, aB r6_2.2)] [11] [] [] [q_] aN ?_
 refine W_cb h (by kernel_rfl) (fun hx4 h => ?_) (fun hx4 h => ?_)
 obtain ⟨x8_2, hx8_2, h⟩ := bind_ok h
 refine Wd [(7, aI .i64 0)] [2, 3, 4, 10, 36] [(6, .box 46 [aI .u8 1, aI .i64 (w64 (x8_2.toNat : Int)), aI .i64 0, aI .i64 0])] [3, 4] [q_, q_, qn (.sx (Int.toNat a2) x8_2), q_, q_, q_, q_] (aC (sx_ob hx8_2) aN) ?_
 refine W_ret ?_
 exact kre kr [] h
 refine W_skip ?_
 obtain ⟨x9_5, hx9_5, h⟩ := bind_ok h
 obtain ⟨x9_9, hx9_9, h⟩ := bind_ok h
 refine Wd [(7, aI .i64 0)] [2, 3, 4, 10, 36] [(6, .box 46 (b_GApiValue x9_9))] [3, 4] [q_, q_, q_, q_, q_, qn (.ix (Int.toNat (w64 (a1.N - 1))) (c_GApiObj x9_5)), q_, q_, q_, qn (.ix (Int.toNat a2) (c_GApiValue x9_9)), q_, q_, q_] (aC (ix_obx c_GApiObj hx9_5) (aC (ix_obx c_GApiValue hx9_9) aN)) ?_
 refine W_ret ?_
 exact kre kr [] h
 refine Wd [(7, aI .i64 r1_2.2)] [2, 3, 4, 8, 9, 19] [] [3, 4] (qz 4 []) aN ?_
 refine W_ret ?_
 exact kre kr [] h
def RI_l11_does (a0 : GHeapHeap) (a1 : GR11H) (a2 : GL11Op) (r : (Bool × GR11H × GHeapHeap)) : Prop := FnIO Try.prog 18 [.ob 900, e_GR11H a1, e_GL11Op a2] [(900, .obj (.any (rep_GHeapHeap a0)))] (.tup [aB r.1, e_GR11H r.2.1]) [(900, .obj (.any (rep_GHeapHeap r.2.2)))]
abbrev l11_does_e (x : (Bool × GR11H × GHeapHeap)) : A × List (Nat × Blk) := ((.tup [aB x.1, e_GR11H x.2.1]), [(900, .obj (.any (rep_GHeapHeap x.2.2)))])
noncomputable def l11_does_j0 (r19_3 : ((List UInt8) × Bool)) (r20_3 : ((List UInt8) × Bool)) (r21_3 : (Int × Int)) (r22_3 : (Int × Int)) (r23_5 : (GApiValue × Int)) (r24_5 : (GApiValue × Int)) (v0_39_0 : Int) (a1 : GR11H) (a2 : GL11Op) (a0 : GHeapHeap) : Option (Bool × GR11H × GHeapHeap) :=
  (if r19_3.1 = r20_3.1 then (if (r19_3.2 == r20_3.2) = true then (if r21_3.1 = r22_3.1 then (if (w64 r21_3.2) = r22_3.2 then (if (decide (r23_5.1.Kind = r24_5.1.Kind) && (decide (r23_5.1.N = r24_5.1.N) && (decide (r23_5.1.Re = r24_5.1.Re) && decide (r23_5.1.Im = r24_5.1.Im)))) = true then (if (w64 r23_5.2) = r24_5.2 then ((xheap_Heap_Of a0 a2.V).bind fun (r28_34 : Int) => (some ((decide (r28_34 = v0_39_0)), a1, a0))) else (some (false, a1, a0))) else (some (false, a1, a0))) else (some (false, a1, a0))) else (some (false, a1, a0))) else (some (false, a1, a0))) else (some (false, a1, a0)))
def l11_does_j0_s (r19_3 : ((List UInt8) × Bool)) (r20_3 : ((List UInt8) × Bool)) (r21_3 : (Int × Int)) (r22_3 : (Int × Int)) (r23_5 : (GApiValue × Int)) (r24_5 : (GApiValue × Int)) (v0_39_0 : Int) (a1 : GR11H) (a2 : GL11Op) (a0 : GHeapHeap) : LS := LS.mk 258 [(0, .ob 900), (4, .ptr 4 0), (5, .ptr 5 0), (7, .ptr 7 0), (27, aS r19_3.1), (28, aB r19_3.2), (29, aS r20_3.1), (30, aB r20_3.2), (31, aI .i64 r21_3.1), (32, aI .u8 r21_3.2), (33, aI .i64 r22_3.1), (34, aI .i64 r22_3.2), (35, .ptr 35 0), (36, aI .u8 r23_5.2), (37, .ptr 37 0), (38, aI .i64 r24_5.2), (39, aI .i64 v0_39_0)] [(4, some (.box 33 [aI .i64 a1.Room, aI .i64 a1.Cells, .t (.sl 4 (a1.L.map c_GApiObj))])), (5, some (.box 48 (b_GL11Op a2))), (7, some (.box 33 [aI .i64 0, aI .i64 0, aNil])), (35, some (.box 46 (b_GApiValue r23_5.1))), (37, some (.box 46 (b_GApiValue r24_5.1))), (900, some (.obj (.any (rep_GHeapHeap a0))))]
theorem l11_does_j0_ok (r19_3 : ((List UInt8) × Bool)) (r20_3 : ((List UInt8) × Bool)) (r21_3 : (Int × Int)) (r22_3 : (Int × Int)) (r23_5 : (GApiValue × Int)) (r24_5 : (GApiValue × Int)) (v0_39_0 : Int) (a1 : GR11H) (a2 : GL11Op) (a0 : GHeapHeap) (r_ : (Bool × GR11H × GHeapHeap)) (Q' : Exit → St → Prop) (kr : KRI Try.prog 18 l11_does_e r_ .ret Q')  (h : l11_does_j0 r19_3 r20_3 r21_3 r22_3 r23_5 r24_5 v0_39_0 a1 a2 a0 = some r_) : W Try.prog (subC (bodyC Try.prog 18) [1, 1, 1, 1, 1, 1, 1, 1, 1, 1, 1]) (l11_does_j0_s r19_3 r20_3 r21_3 r22_3 r23_5 r24_5 v0_39_0 a1 a2 a0).st Q' := by
 unfold l11_does_j0 at h
 refine if_c h (fun hx1001 h => ?_) (fun hx1001 h => ?_)
 refine ib_c h (fun hx1002 h => ?_) (fun hx1002 h => ?_)
 refine if_c h (fun hx1003 h => ?_) (fun hx1003 h => ?_)
 refine if_c h (fun hx1004 h => ?_) (fun hx1004 h => ?_)
 refine ib_c h (fun hx1005 h => ?_) (fun hx1005 h => ?_)
 refine if_c h (fun hx1006 h => ?_) (fun hx1006 h => ?_)
 obtain ⟨r28_34, hr28_34, h⟩ := bindk xheap_Heap_Of_ok h
 refine Wd [(6, aB (decide (r28_34 = v0_39_0)))] [0, 4, 5, 27, 28, 29, 30, 31, 32, 33, 34, 35, 36, 37, 38, 39] [(7, .box 33 [aI .i64 a1.Room, aI .i64 a1.Cells, .t (.sl 4 (a1.L.map c_GApiObj))])] [4, 5, 35, 37] [q_, q_, qn (.val (.bool (decide (r19_3.1 = r20_3.1)))), q_, qt0, qt0, qt0, qn (.dec true), q_, qt0, qt0, qt0, qn (.dec true), q_, qt0, qt0, qt0, qt0, qn (.dec true), q_, qt0, qt0, qt (.quiet (aB (decide (r23_5.1.Kind = r24_5.1.Kind) && (decide (r23_5.1.N = r24_5.1.N) && (decide (r23_5.1.Re = r24_5.1.Re) && decide (r23_5.1.Im = r24_5.1.Im)))))), qn (.dec true), q_, qt0, qt0, qt0, qt0, qn (.dec true), q_, qt0, qt0, qt0, qt (.io ⟨[], [(900, 900)], [], [], [], [], [(900, 900)]⟩ (aI .i64 r28_34) [(900, .obj (.any (rep_GHeapHeap a0)))]), qt0, qt0, qn (.dec true), q_, q_, q_] (aC (str_eq_ob (P := Try.prog) 9 r19_3.1 r20_3.1) (aC hx1001 (aC hx1001 (aC hx1001 (aC hx1001 (aC hx1002 (aC hx1002 (aC hx1002 (aC hx1002 (aC hx1003 (aC hx1003 (aC hx1003 (aC hx1003 (aC hx1003 (aC hx1004 (aC hx1004 (aC hx1004 (aC (show Quiet Try.prog (opAt (subC (bodyC Try.prog 18) [1, 1, 1, 1, 1, 1, 1, 1, 1, 1, 1, 0]) 22) [e_GApiValue r23_5.1, e_GApiValue r24_5.1] (aB (decide (r23_5.1.Kind = r24_5.1.Kind) && (decide (r23_5.1.N = r24_5.1.N) && (decide (r23_5.1.Re = r24_5.1.Re) && decide (r23_5.1.Im = r24_5.1.Im))))) from eqA_ob (P := Try.prog) (ne := false) (xs := [.int .u8 r23_5.1.Kind, .int .i64 r23_5.1.N, .int .i64 r23_5.1.Re, .int .i64 r23_5.1.Im]) (ys := [.int .u8 r24_5.1.Kind, .int .i64 r24_5.1.N, .int .i64 r24_5.1.Re, .int .i64 r24_5.1.Im]) (hh := none) ⟨_, by rfl⟩ (by kernel_rfl) (by kernel_rfl)) (aC hx1004 (aC hx1005 (aC hx1005 (aC hx1005 (aC hx1005 (aC hx1005 (aC hx1006 (aC hx1006 (aC hx1006 (aC hx1006 (aC hr28_34 (aC hx1006 (aC hx1006 (aC hx1006 aN)))))))))))))))))))))))))))))))) ?_
 refine W_ret ?_
 exact kri kr (cR [900] []) h
 refine Wd [(6, aB false)] [0, 4, 5, 27, 28, 29, 30, 31, 32, 33, 34, 35, 36, 37, 38, 39] [(7, .box 33 [aI .i64 a1.Room, aI .i64 a1.Cells, .t (.sl 4 (a1.L.map c_GApiObj))])] [4, 5, 35, 37] [q_, q_, qn (.val (.bool (decide (r19_3.1 = r20_3.1)))), q_, qt0, qt0, qt0, qn (.dec true), q_, qt0, qt0, qt0, qn (.dec true), q_, qt0, qt0, qt0, qt0, qn (.dec true), q_, qt0, qt0, qt (.quiet (aB (decide (r23_5.1.Kind = r24_5.1.Kind) && (decide (r23_5.1.N = r24_5.1.N) && (decide (r23_5.1.Re = r24_5.1.Re) && decide (r23_5.1.Im = r24_5.1.Im)))))), qn (.dec true), q_, qt0, qt0, qt0, qt0, qn (.dec true), q_, qf0, qf0, qf0, qf0, qf0, qf0, qn (.dec false), q_, q_, q_] (aC (str_eq_ob (P := Try.prog) 9 r19_3.1 r20_3.1) (aC hx1001 (aC hx1001 (aC hx1001 (aC hx1001 (aC hx1002 (aC hx1002 (aC hx1002 (aC hx1002 (aC hx1003 (aC hx1003 (aC hx1003 (aC hx1003 (aC hx1003 (aC hx1004 (aC hx1004 (aC hx1004 (aC (show Quiet Try.prog (opAt (subC (bodyC Try.prog 18) [1, 1, 1, 1, 1, 1, 1, 1, 1, 1, 1, 0]) 22) [e_GApiValue r23_5.1, e_GApiValue r24_5.1] (aB (decide (r23_5.1.Kind = r24_5.1.Kind) && (decide (r23_5.1.N = r24_5.1.N) && (decide (r23_5.1.Re = r24_5.1.Re) && decide (r23_5.1.Im = r24_5.1.Im))))) from eqA_ob (P := Try.prog) (ne := false) (xs := [.int .u8 r23_5.1.Kind, .int .i64 r23_5.1.N, .int .i64 r23_5.1.Re, .int .i64 r23_5.1.Im]) (ys := [.int .u8 r24_5.1.Kind, .int .i64 r24_5.1.N, .int .i64 r24_5.1.Re, .int .i64 r24_5.1.Im]) (hh := none) ⟨_, by rfl⟩ (by kernel_rfl) (by kernel_rfl)) (aC hx1004 (aC hx1005 (aC hx1005 (aC hx1005 (aC hx1005 (aC hx1005 (aC hx1006 (aC hx1006 (aC hx1006 (aC hx1006 (aC hx1006 (aC hx1006 (aC hx1006 aN))))))))))))))))))))))))))))))) ?_
 refine W_ret ?_
 exact kri kr (cR [900] []) h
 refine Wd [(6, aB false)] [0, 4, 5, 27, 28, 29, 30, 31, 32, 33, 34, 35, 36, 37, 38, 39] [(7, .box 33 [aI .i64 a1.Room, aI .i64 a1.Cells, .t (.sl 4 (a1.L.map c_GApiObj))])] [4, 5, 35, 37] (q_ :: q_ :: qn (.val (.bool (decide (r19_3.1 = r20_3.1)))) :: q_ :: qt0 :: qt0 :: qt0 :: qn (.dec true) :: q_ :: qt0 :: qt0 :: qt0 :: qn (.dec true) :: q_ :: qt0 :: qt0 :: qt0 :: qt0 :: qn (.dec true) :: q_ :: qt0 :: qt0 :: qt (.quiet (aB (decide (r23_5.1.Kind = r24_5.1.Kind) && (decide (r23_5.1.N = r24_5.1.N) && (decide (r23_5.1.Re = r24_5.1.Re) && decide (r23_5.1.Im = r24_5.1.Im)))))) :: qn (.dec true) :: q_ :: qf0 :: qf0 :: qf0 :: qf0 :: qn (.dec false) :: (qz 11 [])) (aC (str_eq_ob (P := Try.prog) 9 r19_3.1 r20_3.1) (aC hx1001 (aC hx1001 (aC hx1001 (aC hx1001 (aC hx1002 (aC hx1002 (aC hx1002 (aC hx1002 (aC hx1003 (aC hx1003 (aC hx1003 (aC hx1003 (aC hx1003 (aC hx1004 (aC hx1004 (aC hx1004 (aC (show Quiet Try.prog (opAt (subC (bodyC Try.prog 18) [1, 1, 1, 1, 1, 1, 1, 1, 1, 1, 1, 0]) 22) [e_GApiValue r23_5.1, e_GApiValue r24_5.1] (aB (decide (r23_5.1.Kind = r24_5.1.Kind) && (decide (r23_5.1.N = r24_5.1.N) && (decide (r23_5.1.Re = r24_5.1.Re) && decide (r23_5.1.Im = r24_5.1.Im))))) from eqA_ob (P := Try.prog) (ne := false) (xs := [.int .u8 r23_5.1.Kind, .int .i64 r23_5.1.N, .int .i64 r23_5.1.Re, .int .i64 r23_5.1.Im]) (ys := [.int .u8 r24_5.1.Kind, .int .i64 r24_5.1.N, .int .i64 r24_5.1.Re, .int .i64 r24_5.1.Im]) (hh := none) ⟨_, by rfl⟩ (by kernel_rfl) (by kernel_rfl)) (aC hx1004 (aC hx1005 (aC hx1005 (aC hx1005 (aC hx1005 (aC hx1005 aN)))))))))))))))))))))))) ?_
 refine W_ret ?_
 exact kri kr (cR [900] []) h
 refine Wd [(6, aB false)] [0, 4, 5, 27, 28, 29, 30, 31, 32, 33, 34, 35, 36, 37, 38, 39] [(7, .box 33 [aI .i64 a1.Room, aI .i64 a1.Cells, .t (.sl 4 (a1.L.map c_GApiObj))])] [4, 5, 35, 37] (q_ :: q_ :: qn (.val (.bool (decide (r19_3.1 = r20_3.1)))) :: q_ :: qt0 :: qt0 :: qt0 :: qn (.dec true) :: q_ :: qt0 :: qt0 :: qt0 :: qn (.dec true) :: q_ :: qt0 :: qt0 :: qt0 :: qt0 :: qn (.dec true) :: q_ :: qf0 :: qf0 :: qf0 :: qn (.dec false) :: (qz 17 [])) (aC (str_eq_ob (P := Try.prog) 9 r19_3.1 r20_3.1) (aC hx1001 (aC hx1001 (aC hx1001 (aC hx1001 (aC hx1002 (aC hx1002 (aC hx1002 (aC hx1002 (aC hx1003 (aC hx1003 (aC hx1003 (aC hx1003 (aC hx1003 (aC hx1004 (aC hx1004 (aC hx1004 (aC hx1004 aN)))))))))))))))))) ?_
 refine W_ret ?_
 exact kri kr (cR [900] []) h
 refine Wd [(6, aB false)] [0, 4, 5, 27, 28, 29, 30, 31, 32, 33, 34, 35, 36, 37, 38, 39] [(7, .box 33 [aI .i64 a1.Room, aI .i64 a1.Cells, .t (.sl 4 (a1.L.map c_GApiObj))])] [4, 5, 35, 37] (q_ :: q_ :: qn (.val (.bool (decide (r19_3.1 = r20_3.1)))) :: q_ :: qt0 :: qt0 :: qt0 :: qn (.dec true) :: q_ :: qt0 :: qt0 :: qt0 :: qn (.dec true) :: q_ :: qf0 :: qf0 :: qf0 :: qf0 :: qn (.dec false) :: (qz 22 [])) (aC (str_eq_ob (P := Try.prog) 9 r19_3.1 r20_3.1) (aC hx1001 (aC hx1001 (aC hx1001 (aC hx1001 (aC hx1002 (aC hx1002 (aC hx1002 (aC hx1002 (aC hx1003 (aC hx1003 (aC hx1003 (aC hx1003 (aC hx1003 aN)))))))))))))) ?_
 refine W_ret ?_
 exact kri kr (cR [900] []) h
 refine Wd [(6, aB false)] [0, 4, 5, 27, 28, 29, 30, 31, 32, 33, 34, 35, 36, 37, 38, 39] [(7, .box 33 [aI .i64 a1.Room, aI .i64 a1.Cells, .t (.sl 4 (a1.L.map c_GApiObj))])] [4, 5, 35, 37] (q_ :: q_ :: qn (.val (.bool (decide (r19_3.1 = r20_3.1)))) :: q_ :: qt0 :: qt0 :: qt0 :: qn (.dec true) :: q_ :: qf0 :: qf0 :: qf0 :: qn (.dec false) :: (qz 28 [])) (aC (str_eq_ob (P := Try.prog) 9 r19_3.1 r20_3.1) (aC hx1001 (aC hx1001 (aC hx1001 (aC hx1001 (aC hx1002 (aC hx1002 (aC hx1002 (aC hx1002 aN))))))))) ?_
 refine W_ret ?_
 exact kri kr (cR [900] []) h
 refine Wd [(6, aB false)] [0, 4, 5, 27, 28, 29, 30, 31, 32, 33, 34, 35, 36, 37, 38, 39] [(7, .box 33 [aI .i64 a1.Room, aI .i64 a1.Cells, .t (.sl 4 (a1.L.map c_GApiObj))])] [4, 5, 35, 37] (q_ :: q_ :: qn (.val (.bool (decide (r19_3.1 = r20_3.1)))) :: q_ :: qf0 :: qf0 :: qf0 :: qn (.dec false) :: (qz 33 [])) (aC (str_eq_ob (P := Try.prog) 9 r19_3.1 r20_3.1) (aC hx1001 (aC hx1001 (aC hx1001 (aC hx1001 aN))))) ?_
 refine W_ret ?_
 exact kri kr (cR [900] []) h
noncomputable def l11_does (a0 : GHeapHeap) (a1 : GR11H) (a2 : GL11Op) : Option (Bool × GR11H × GHeapHeap) :=
  (if a2.Kind = 0 then ((xheap_Heap_Str a0 a2.Text).bind fun (r4_3 : (GApiValue × Bool × GHeapHeap)) => ((r11_H_Str a1 a2.Text).bind fun (r5_3 : (GApiValue × Bool × GR11H)) => (if (decide (r4_3.1.Kind = r5_3.1.Kind) && (decide (r4_3.1.N = r5_3.1.N) && (decide (r4_3.1.Re = r5_3.1.Re) && decide (r4_3.1.Im = r5_3.1.Im)))) = true then (some ((r4_3.2.1 == r5_3.2.1), r5_3.2.2, r4_3.2.2)) else (some (false, r5_3.2.2, r4_3.2.2))))) else (if a2.Kind = 1 then ((xheap_Heap_List a0 a2.Of (if (if (1099511627776 : Int) < a2.N then 1099511627776 else a2.N) < (-1) then (-1) else (if (1099511627776 : Int) < a2.N then 1099511627776 else a2.N)) a2.X).bind fun (r8_6 : (GApiValue × Bool × GHeapHeap)) => ((r11_H_List a1 a2.Of (if (if (1099511627776 : Int) < a2.N then 1099511627776 else a2.N) < (-1) then (-1) else (if (1099511627776 : Int) < a2.N then 1099511627776 else a2.N)) a2.X).bind fun (r9_6 : (GApiValue × Bool × GR11H)) => (if (decide (r8_6.1.Kind = r9_6.1.Kind) && (decide (r8_6.1.N = r9_6.1.N) && (decide (r8_6.1.Re = r9_6.1.Re) && decide (r8_6.1.Im = r9_6.1.Im)))) = true then (some ((r8_6.2.1 == r9_6.2.1), r9_6.2.2, r8_6.2.2)) else (some (false, r9_6.2.2, r8_6.2.2))))) else (if a2.Kind = 2 then ((xheap_Heap_Rec a0 a2.Of a2.Vals).bind fun (r12_5 : (GApiValue × Bool × GHeapHeap)) => ((r11_H_Rec a1 a2.Of a2.Vals).bind fun (r13_5 : (GApiValue × Bool × GR11H)) => (if (decide (r12_5.1.Kind = r13_5.1.Kind) && (decide (r12_5.1.N = r13_5.1.N) && (decide (r12_5.1.Re = r13_5.1.Re) && decide (r12_5.1.Im = r13_5.1.Im)))) = true then (some ((r12_5.2.1 == r13_5.2.1), r13_5.2.2, r12_5.2.2)) else (some (false, r13_5.2.2, r12_5.2.2))))) else (if a2.Kind = 3 then ((xheap_Heap_Put a0 a2.V a2.N a2.X).bind fun (r16_7 : (Int × GHeapHeap)) => ((r11_H_Put a1 a2.V a2.N a2.X).bind fun (r17_7 : (Int × GR11H)) => (some ((decide ((w64 r16_7.1) = r17_7.1)), r17_7.2, r16_7.2)))) else ((xheap_Heap_Text a0 a2.V).bind fun (r19_3 : ((List UInt8) × Bool)) => ((r11_H_Text a1 a2.V).bind fun (r20_3 : ((List UInt8) × Bool)) => ((xheap_Heap_Size a0 a2.V).bind fun (r21_3 : (Int × Int)) => ((r11_H_Size a1 a2.V).bind fun (r22_3 : (Int × Int)) => ((xheap_Heap_Get a0 a2.V a2.N).bind fun (r23_5 : (GApiValue × Int)) => ((r11_H_Get a1 a2.V a2.N).bind fun (r24_5 : (GApiValue × Int)) => ((r11_H_Names a1 a2.V).bind fun (r26_3 : Bool) => (if r26_3 = true then ((getI a1.L (w64 (a2.V.N - 1))).bind fun (x27_6 : GApiObj) => l11_does_j0 r19_3 r20_3 r21_3 r22_3 r23_5 r24_5 x27_6.Of a1 a2 a0) else l11_does_j0 r19_3 r20_3 r21_3 r22_3 r23_5 r24_5 0 a1 a2 a0))))))))))))
theorem l11_does_ok {a0 : GHeapHeap} {a1 : GR11H} {a2 : GL11Op} {r_ : (Bool × GR11H × GHeapHeap)} (h : l11_does a0 a1 a2 = some r_) : RI_l11_does a0 a1 a2 r_ := by
 unfold l11_does at h
 refine fn_ioZ (enc := l11_does_e) (by kernel_rfl) (by kernel_rfl) fun Q' kr kn => ?_
 refine Wd [(4, .ptr 4 0), (5, .ptr 5 0), (7, .ptr 7 0)] [1, 2] [(4, .box 33 [aI .i64 a1.Room, aI .i64 a1.Cells, .t (.sl 4 (a1.L.map c_GApiObj))]), (5, .box 48 (b_GL11Op a2)), (7, .box 33 [aI .i64 0, aI .i64 0, aNil])] [] (qz 4 []) aN ?_
 refine Wd [(8, aI .i64 (if (if (1099511627776 : Int) < a2.N then 1099511627776 else a2.N) < (-1) then (-1) else (if (1099511627776 : Int) < a2.N then 1099511627776 else a2.N)))] [] [] [] [q_, q_, qn (.quiet (aI .i64 (if (1099511627776 : Int) < a2.N then 1099511627776 else a2.N))), qn (.quiet (aI .i64 (if (if (1099511627776 : Int) < a2.N then 1099511627776 else a2.N) < (-1) then (-1) else (if (1099511627776 : Int) < a2.N then 1099511627776 else a2.N)))), q_] (aC (show Quiet Try.prog (opAt (subC (bodyC Try.prog 18) [1, 0]) 2) [aI .i64 a2.N, aI .i64 1099511627776] (aI .i64 (if (1099511627776 : Int) < a2.N then 1099511627776 else a2.N)) from min_ob (by rfl) (by rfl) (by rfl)) (aC (show Quiet Try.prog (opAt (subC (bodyC Try.prog 18) [1, 0]) 3) [aI .i64 (if (1099511627776 : Int) < a2.N then 1099511627776 else a2.N), aI .i64 (-1)] (aI .i64 (if (if (1099511627776 : Int) < a2.N then 1099511627776 else a2.N) < (-1) then (-1) else (if (1099511627776 : Int) < a2.N then 1099511627776 else a2.N))) from max_ob (by rfl) (by rfl) (by rfl)) aN)) ?_
 refine W_seq ?_
 refine Wd [(45, aI .i64 a2.Kind)] [] [] [] [q_, q_] aN ?_
 refine W_block ?_
 refine Wd [(46, aB (decide (a2.Kind = 0)))] [] [] [] [q_, q_] aN ?_
 refine W_cd h (by kernel_rfl) (fun hx1 h => ?_) (fun hx1 h => ?_)
 obtain ⟨r4_3, hr4_3, h⟩ := bindk xheap_Heap_Str_ok h
 refine Wd [(9, .ptr 9 0), (10, aB r4_3.2.1)] [0, 8, 45, 46] [(9, .box 46 (b_GApiValue r4_3.1)), (900, .obj (.any (rep_GHeapHeap r4_3.2.2)))] [] (q_ :: q_ :: q_ :: qn (.io ⟨[], [(900, 900)], [], [], [], [], [(900, 900)]⟩ (.tup [e_GApiValue r4_3.1, aB r4_3.2.1]) [(900, .obj (.any (rep_GHeapHeap r4_3.2.2)))]) :: (qz 6 [])) (aC hr4_3 aN) ?_
 obtain ⟨r5_3, hr5_3, h⟩ := bindk r11_H_Str_ok h
 refine Wd [(11, .ptr 11 0), (12, aB r5_3.2.1), (13, .ptr 13 0)] [4, 5] [(11, .box 46 (b_GApiValue r5_3.1)), (13, .box 33 [aI .i64 r5_3.2.2.Room, aI .i64 r5_3.2.2.Cells, .t (.sl 4 (r5_3.2.2.L.map c_GApiObj))])] [4, 5] (q_ :: q_ :: q_ :: qn (.call [] (.tup [e_GApiValue r5_3.1, aB r5_3.2.1, e_GR11H r5_3.2.2])) :: (qz 9 [])) (aC hr5_3 aN) ?_
 refine ib_c h (fun hx2 h => ?_) (fun hx2 h => ?_)
 refine Wd [(6, aB (r4_3.2.1 == r5_3.2.1))] [9, 10, 11, 12, 13] [(7, .box 33 [aI .i64 r5_3.2.2.Room, aI .i64 r5_3.2.2.Cells, .t (.sl 4 (r5_3.2.2.L.map c_GApiObj))])] [9, 11, 13] [q_, q_, qn (.quiet (aB (decide (r4_3.1.Kind = r5_3.1.Kind) && (decide (r4_3.1.N = r5_3.1.N) && (decide (r4_3.1.Re = r5_3.1.Re) && decide (r4_3.1.Im = r5_3.1.Im)))))), q_, qt0, qt0, qt0, qn (.dec true), q_, q_, q_] (aC (show Quiet Try.prog (opAt (subC (bodyC Try.prog 18) [1, 1, 0, 1, 0, 1, 0, 1, 1, 0]) 2) [e_GApiValue r4_3.1, e_GApiValue r5_3.1] (aB (decide (r4_3.1.Kind = r5_3.1.Kind) && (decide (r4_3.1.N = r5_3.1.N) && (decide (r4_3.1.Re = r5_3.1.Re) && decide (r4_3.1.Im = r5_3.1.Im))))) from eqA_ob (P := Try.prog) (ne := false) (xs := [.int .u8 r4_3.1.Kind, .int .i64 r4_3.1.N, .int .i64 r4_3.1.Re, .int .i64 r4_3.1.Im]) (ys := [.int .u8 r5_3.1.Kind, .int .i64 r5_3.1.N, .int .i64 r5_3.1.Re, .int .i64 r5_3.1.Im]) (hh := none) ⟨_, by rfl⟩ (by kernel_rfl) (by kernel_rfl)) (aC hx2 (aC hx2 (aC hx2 (aC hx2 aN))))) ?_
 refine W_ret ?_
 exact kri kr (cR [900] []) h
 refine Wd [(6, aB false)] [9, 10, 11, 12, 13] [(7, .box 33 [aI .i64 r5_3.2.2.Room, aI .i64 r5_3.2.2.Cells, .t (.sl 4 (r5_3.2.2.L.map c_GApiObj))])] [9, 11, 13] [q_, q_, qn (.quiet (aB (decide (r4_3.1.Kind = r5_3.1.Kind) && (decide (r4_3.1.N = r5_3.1.N) && (decide (r4_3.1.Re = r5_3.1.Re) && decide (r4_3.1.Im = r5_3.1.Im)))))), q_, qf0, qf0, qf0, qn (.dec false), q_, q_, q_] (aC (show Quiet Try.prog (opAt (subC (bodyC Try.prog 18) [1, 1, 0, 1, 0, 1, 0, 1, 1, 0]) 2) [e_GApiValue r4_3.1, e_GApiValue r5_3.1] (aB (decide (r4_3.1.Kind = r5_3.1.Kind) && (decide (r4_3.1.N = r5_3.1.N) && (decide (r4_3.1.Re = r5_3.1.Re) && decide (r4_3.1.Im = r5_3.1.Im))))) from eqA_ob (P := Try.prog) (ne := false) (xs := [.int .u8 r4_3.1.Kind, .int .i64 r4_3.1.N, .int .i64 r4_3.1.Re, .int .i64 r4_3.1.Im]) (ys := [.int .u8 r5_3.1.Kind, .int .i64 r5_3.1.N, .int .i64 r5_3.1.Re, .int .i64 r5_3.1.Im]) (hh := none) ⟨_, by rfl⟩ (by kernel_rfl) (by kernel_rfl)) (aC hx2 (aC hx2 (aC hx2 (aC hx2 aN))))) ?_
 refine W_ret ?_
 exact kri kr (cR [900] []) h
 refine Wd [(72, aB (decide (a2.Kind = 1)))] [46] [] [] [q_, q_] aN ?_
 refine W_cd h (by kernel_rfl) (fun hx3 h => ?_) (fun hx3 h => ?_)
 obtain ⟨r8_6, hr8_6, h⟩ := bindk xheap_Heap_List_ok h
 refine Wd [(14, .ptr 14 0), (15, aB r8_6.2.1)] [0, 45, 72] [(14, .box 46 (b_GApiValue r8_6.1)), (900, .obj (.any (rep_GHeapHeap r8_6.2.2)))] [] (qz 6 (qn (.io ⟨[], [(900, 900)], [], [], [], [], [(900, 900)]⟩ (.tup [e_GApiValue r8_6.1, aB r8_6.2.1]) [(900, .obj (.any (rep_GHeapHeap r8_6.2.2)))]) :: (qz 6 []))) (aC hr8_6 aN) ?_
 obtain ⟨r9_6, hr9_6, h⟩ := bindk r11_H_List_ok h
 refine Wd [(16, .ptr 16 0), (17, aB r9_6.2.1), (18, .ptr 18 0)] [4, 5, 8] [(16, .box 46 (b_GApiValue r9_6.1)), (18, .box 33 [aI .i64 r9_6.2.2.Room, aI .i64 r9_6.2.2.Cells, .t (.sl 4 (r9_6.2.2.L.map c_GApiObj))])] [4, 5] (qz 6 (qn (.call [] (.tup [e_GApiValue r9_6.1, aB r9_6.2.1, e_GR11H r9_6.2.2])) :: (qz 9 []))) (aC hr9_6 aN) ?_
 refine ib_c h (fun hx4 h => ?_) (fun hx4 h => ?_)
 refine Wd [(6, aB (r8_6.2.1 == r9_6.2.1))] [14, 15, 16, 17, 18] [(7, .box 33 [aI .i64 r9_6.2.2.Room, aI .i64 r9_6.2.2.Cells, .t (.sl 4 (r9_6.2.2.L.map c_GApiObj))])] [14, 16, 18] [q_, q_, qn (.quiet (aB (decide (r8_6.1.Kind = r9_6.1.Kind) && (decide (r8_6.1.N = r9_6.1.N) && (decide (r8_6.1.Re = r9_6.1.Re) && decide (r8_6.1.Im = r9_6.1.Im)))))), q_, qt0, qt0, qt0, qn (.dec true), q_, q_, q_] (aC (show Quiet Try.prog (opAt (subC (bodyC Try.prog 18) [1, 1, 0, 1, 0, 1, 1, 1, 0, 1, 1, 0]) 2) [e_GApiValue r8_6.1, e_GApiValue r9_6.1] (aB (decide (r8_6.1.Kind = r9_6.1.Kind) && (decide (r8_6.1.N = r9_6.1.N) && (decide (r8_6.1.Re = r9_6.1.Re) && decide (r8_6.1.Im = r9_6.1.Im))))) from eqA_ob (P := Try.prog) (ne := false) (xs := [.int .u8 r8_6.1.Kind, .int .i64 r8_6.1.N, .int .i64 r8_6.1.Re, .int .i64 r8_6.1.Im]) (ys := [.int .u8 r9_6.1.Kind, .int .i64 r9_6.1.N, .int .i64 r9_6.1.Re, .int .i64 r9_6.1.Im]) (hh := none) ⟨_, by rfl⟩ (by kernel_rfl) (by kernel_rfl)) (aC hx4 (aC hx4 (aC hx4 (aC hx4 aN))))) ?_
 refine W_ret ?_
 exact kri kr (cR [900] []) h
 refine Wd [(6, aB false)] [14, 15, 16, 17, 18] [(7, .box 33 [aI .i64 r9_6.2.2.Room, aI .i64 r9_6.2.2.Cells, .t (.sl 4 (r9_6.2.2.L.map c_GApiObj))])] [14, 16, 18] [q_, q_, qn (.quiet (aB (decide (r8_6.1.Kind = r9_6.1.Kind) && (decide (r8_6.1.N = r9_6.1.N) && (decide (r8_6.1.Re = r9_6.1.Re) && decide (r8_6.1.Im = r9_6.1.Im)))))), q_, qf0, qf0, qf0, qn (.dec false), q_, q_, q_] (aC (show Quiet Try.prog (opAt (subC (bodyC Try.prog 18) [1, 1, 0, 1, 0, 1, 1, 1, 0, 1, 1, 0]) 2) [e_GApiValue r8_6.1, e_GApiValue r9_6.1] (aB (decide (r8_6.1.Kind = r9_6.1.Kind) && (decide (r8_6.1.N = r9_6.1.N) && (decide (r8_6.1.Re = r9_6.1.Re) && decide (r8_6.1.Im = r9_6.1.Im))))) from eqA_ob (P := Try.prog) (ne := false) (xs := [.int .u8 r8_6.1.Kind, .int .i64 r8_6.1.N, .int .i64 r8_6.1.Re, .int .i64 r8_6.1.Im]) (ys := [.int .u8 r9_6.1.Kind, .int .i64 r9_6.1.N, .int .i64 r9_6.1.Re, .int .i64 r9_6.1.Im]) (hh := none) ⟨_, by rfl⟩ (by kernel_rfl) (by kernel_rfl)) (aC hx4 (aC hx4 (aC hx4 (aC hx4 aN))))) ?_
 refine W_ret ?_
 exact kri kr (cR [900] []) h
 refine Wd [(104, aB (decide (a2.Kind = 2)))] [8, 72] [] [] [q_, q_] aN ?_
 refine W_cd h (by kernel_rfl) (fun hx5 h => ?_) (fun hx5 h => ?_)
 obtain ⟨r12_5, hr12_5, h⟩ := bindk xheap_Heap_Rec_ok h
 refine Wd [(19, .ptr 19 0), (20, aB r12_5.2.1)] [0, 45, 104] [(19, .box 46 (b_GApiValue r12_5.1)), (900, .obj (.any (rep_GHeapHeap r12_5.2.2)))] [] (q_ :: q_ :: q_ :: q_ :: q_ :: qn (.io ⟨[], [(900, 900)], [], [], [], [], [(900, 900)]⟩ (.tup [e_GApiValue r12_5.1, aB r12_5.2.1]) [(900, .obj (.any (rep_GHeapHeap r12_5.2.2)))]) :: (qz 6 [])) (aC hr12_5 aN) ?_
 obtain ⟨r13_5, hr13_5, h⟩ := bindk r11_H_Rec_ok h
 refine Wd [(21, .ptr 21 0), (22, aB r13_5.2.1), (23, .ptr 23 0)] [4, 5] [(21, .box 46 (b_GApiValue r13_5.1)), (23, .box 33 [aI .i64 r13_5.2.2.Room, aI .i64 r13_5.2.2.Cells, .t (.sl 4 (r13_5.2.2.L.map c_GApiObj))])] [4, 5] (q_ :: q_ :: q_ :: q_ :: q_ :: qn (.call [] (.tup [e_GApiValue r13_5.1, aB r13_5.2.1, e_GR11H r13_5.2.2])) :: (qz 9 [])) (aC hr13_5 aN) ?_
 refine ib_c h (fun hx6 h => ?_) (fun hx6 h => ?_)
 refine Wd [(6, aB (r12_5.2.1 == r13_5.2.1))] [19, 20, 21, 22, 23] [(7, .box 33 [aI .i64 r13_5.2.2.Room, aI .i64 r13_5.2.2.Cells, .t (.sl 4 (r13_5.2.2.L.map c_GApiObj))])] [19, 21, 23] [q_, q_, qn (.quiet (aB (decide (r12_5.1.Kind = r13_5.1.Kind) && (decide (r12_5.1.N = r13_5.1.N) && (decide (r12_5.1.Re = r13_5.1.Re) && decide (r12_5.1.Im = r13_5.1.Im)))))), q_, qt0, qt0, qt0, qn (.dec true), q_, q_, q_] (aC (show Quiet Try.prog (opAt (subC (bodyC Try.prog 18) [1, 1, 0, 1, 0, 1, 1, 1, 1, 1, 0, 1, 1, 0]) 2) [e_GApiValue r12_5.1, e_GApiValue r13_5.1] (aB (decide (r12_5.1.Kind = r13_5.1.Kind) && (decide (r12_5.1.N = r13_5.1.N) && (decide (r12_5.1.Re = r13_5.1.Re) && decide (r12_5.1.Im = r13_5.1.Im))))) from eqA_ob (P := Try.prog) (ne := false) (xs := [.int .u8 r12_5.1.Kind, .int .i64 r12_5.1.N, .int .i64 r12_5.1.Re, .int .i64 r12_5.1.Im]) (ys := [.int .u8 r13_5.1.Kind, .int .i64 r13_5.1.N, .int .i64 r13_5.1.Re, .int .i64 r13_5.1.Im]) (hh := none) ⟨_, by rfl⟩ (by kernel_rfl) (by kernel_rfl)) (aC hx6 (aC hx6 (aC hx6 (aC hx6 aN))))) ?_
 refine W_ret ?_
 exact kri kr (cR [900] []) h
 refine Wd [(6, aB false)] [19, 20, 21, 22, 23] [(7, .box 33 [aI .i64 r13_5.2.2.Room, aI .i64 r13_5.2.2.Cells, .t (.sl 4 (r13_5.2.2.L.map c_GApiObj))])] [19, 21, 23] [q_, q_, qn (.quiet (aB (decide (r12_5.1.Kind = r13_5.1.Kind) && (decide (r12_5.1.N = r13_5.1.N) && (decide (r12_5.1.Re = r13_5.1.Re) && decide (r12_5.1.Im = r13_5.1.Im)))))), q_, qf0, qf0, qf0, qn (.dec false), q_, q_, q_] (aC (show Quiet Try.prog (opAt (subC (bodyC Try.prog 18) [1, 1, 0, 1, 0, 1, 1, 1, 1, 1, 0, 1, 1, 0]) 2) [e_GApiValue r12_5.1, e_GApiValue r13_5.1] (aB (decide (r12_5.1.Kind = r13_5.1.Kind) && (decide (r12_5.1.N = r13_5.1.N) && (decide (r12_5.1.Re = r13_5.1.Re) && decide (r12_5.1.Im = r13_5.1.Im))))) from eqA_ob (P := Try.prog) (ne := false) (xs := [.int .u8 r12_5.1.Kind, .int .i64 r12_5.1.N, .int .i64 r12_5.1.Re, .int .i64 r12_5.1.Im]) (ys := [.int .u8 r13_5.1.Kind, .int .i64 r13_5.1.N, .int .i64 r13_5.1.Re, .int .i64 r13_5.1.Im]) (hh := none) ⟨_, by rfl⟩ (by kernel_rfl) (by kernel_rfl)) (aC hx6 (aC hx6 (aC hx6 (aC hx6 aN))))) ?_
 refine W_ret ?_
 exact kri kr (cR [900] []) h
 refine Wd [(134, aB (decide (a2.Kind = 3)))] [45, 104] [] [] [q_, q_] aN ?_
 refine W_cd h (by kernel_rfl) (fun hx7 h => ?_) (fun hx7 h => ?_)
 obtain ⟨r16_7, hr16_7, h⟩ := bindk xheap_Heap_Put_ok h
 refine Wd [(24, aI .u8 r16_7.1)] [0, 134] [(900, .obj (.any (rep_GHeapHeap r16_7.2)))] [] (qz 7 [qn (.io ⟨[], [(900, 900)], [], [], [], [], [(900, 900)]⟩ (aI .u8 r16_7.1) [(900, .obj (.any (rep_GHeapHeap r16_7.2)))]), q_]) (aC hr16_7 aN) ?_
 obtain ⟨r17_7, hr17_7, h⟩ := bindk r11_H_Put_ok h
 refine Wd [(25, aI .i64 r17_7.1), (26, .ptr 26 0)] [4, 5] [(26, .box 33 [aI .i64 r17_7.2.Room, aI .i64 r17_7.2.Cells, .t (.sl 4 (r17_7.2.L.map c_GApiObj))])] [4, 5] (qz 7 (qn (.call [] (.tup [aI .i64 r17_7.1, e_GR11H r17_7.2])) :: (qz 6 []))) (aC hr17_7 aN) ?_
 refine Wd [(6, aB (decide ((w64 r16_7.1) = r17_7.1)))] [24, 25, 26] [(7, .box 33 [aI .i64 r17_7.2.Room, aI .i64 r17_7.2.Cells, .t (.sl 4 (r17_7.2.L.map c_GApiObj))])] [26] (qz 7 []) aN ?_
 refine W_ret ?_
 exact kri kr (cR [900] []) h
 refine W_skip ?_
 obtain ⟨r19_3, hr19_3, h⟩ := bindk xheap_Heap_Text_ok h
 refine Wd [(27, aS r19_3.1), (28, aB r19_3.2)] [134] [] [] [q_, q_, q_, qn (.io ⟨[], [(900, 900)], [], [], [], [], [(900, 900)]⟩ (.tup [aS r19_3.1, aB r19_3.2]) [(900, .obj (.any (rep_GHeapHeap a0)))]), q_, q_, q_, q_, q_] (aC hr19_3 aN) ?_
 obtain ⟨r20_3, hr20_3, h⟩ := bindk r11_H_Text_ok h
 refine Wd [(29, aS r20_3.1), (30, aB r20_3.2)] [] [] [] [q_, q_, q_, qn (.call [] (.tup [aS r20_3.1, aB r20_3.2])), q_, q_, q_, q_, q_] (aC hr20_3 aN) ?_
 obtain ⟨r21_3, hr21_3, h⟩ := bindk xheap_Heap_Size_ok h
 refine Wd [(31, aI .i64 r21_3.1), (32, aI .u8 r21_3.2)] [] [] [] [q_, q_, q_, qn (.io ⟨[], [(900, 900)], [], [], [], [], [(900, 900)]⟩ (.tup [aI .i64 r21_3.1, aI .u8 r21_3.2]) [(900, .obj (.any (rep_GHeapHeap a0)))]), q_, q_, q_, q_, q_] (aC hr21_3 aN) ?_
 obtain ⟨r22_3, hr22_3, h⟩ := bindk r11_H_Size_ok h
 refine Wd [(33, aI .i64 r22_3.1), (34, aI .i64 r22_3.2)] [] [] [] [q_, q_, q_, qn (.call [] (.tup [aI .i64 r22_3.1, aI .i64 r22_3.2])), q_, q_, q_, q_, q_] (aC hr22_3 aN) ?_
 obtain ⟨r23_5, hr23_5, h⟩ := bindk xheap_Heap_Get_ok h
 refine Wd [(35, .ptr 35 0), (36, aI .u8 r23_5.2)] [] [(35, .box 46 (b_GApiValue r23_5.1))] [] (q_ :: q_ :: q_ :: q_ :: q_ :: qn (.io ⟨[], [(900, 900)], [], [], [], [], [(900, 900)]⟩ (.tup [e_GApiValue r23_5.1, aI .u8 r23_5.2]) [(900, .obj (.any (rep_GHeapHeap a0)))]) :: (qz 6 [])) (aC hr23_5 aN) ?_
 obtain ⟨r24_5, hr24_5, h⟩ := bindk r11_H_Get_ok h
 refine Wd [(37, .ptr 37 0), (38, aI .i64 r24_5.2)] [] [(37, .box 46 (b_GApiValue r24_5.1))] [] (q_ :: q_ :: q_ :: q_ :: q_ :: qn (.call [] (.tup [e_GApiValue r24_5.1, aI .i64 r24_5.2])) :: (qz 6 [])) (aC hr24_5 aN) ?_
 refine Wd [(39, aI .i64 0)] [] [] [] [q_] aN ?_
 refine W_seq ?_
 obtain ⟨r26_3, hr26_3, h⟩ := bindk r11_H_Names_ok h
 refine Wd [(209, aB r26_3)] [] [] [] [q_, q_, q_, qn (.call [] (aB r26_3))] (aC hr26_3 aN) ?_
 refine W_cb h (by kernel_rfl) (fun hx8 h => ?_) (fun hx8 h => ?_)
 obtain ⟨x27_6, hx27_6, h⟩ := bind_ok h
 refine We [(39, aI .i64 x27_6.Of)] [209] [] [] (qz 6 [qn (.ix (Int.toNat (w64 (a2.V.N - 1))) (c_GApiObj x27_6)), q_, q_, q_]) (aC (ix_obx c_GApiObj hx27_6) aN) ?_
 exact Wc (cB [4, 5, 7, 35, 37] [900] [0, 4, 5, 7, 27, 28, 29, 30, 31, 32, 33, 34, 35, 36, 37, 38, 39]) (l11_does_j0_ok r19_3 r20_3 r21_3 r22_3 r23_5 r24_5 x27_6.Of a1 a2 a0 r_ _ kr h)
 refine W_skip ?_
 exact Wc (cB [4, 5, 7, 35, 37] [900] [0, 4, 5, 7, 27, 28, 29, 30, 31, 32, 33, 34, 35, 36, 37, 38, 39]) (l11_does_j0_ok r19_3 r20_3 r21_3 r22_3 r23_5 r24_5 0 a1 a2 a0 r_ _ kr h)
inductive l11_HeapPlays_C where
  | l0 (a1 : (List GL11Op)) (v0_8_0 : Int) (b0_7 : GR11H) (o0_1005 : GHeapHeap)
  | j1 (b0_7 : GR11H) (o0_1005 : GHeapHeap)
end Go.Proofs.Ytblikpgdepjhdaa
