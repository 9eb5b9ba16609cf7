/- Parts of the proof. -/
import Derived.Test.YtcmpcbpdnaodmaaDoorLsLcRef
import Derived.Test.YtcmpcbpdnaodmaaDoorLsLcAw
import Derived.Test.YtcmpcbpdnaodmaaDoorLsQL
import Derived.Test.YtcmpcbpdnaodmaaDoorLsLfOp
namespace Go.Proofs.YtcmpcbpdnaodmaaDoor
open Go.RowKit Go.Great
set_option linter.unusedVariables false
set_option maxHeartbeats 4000000
set_option maxRecDepth 100000
theorem fn_bool {f : FuncId} {args : List A} {vals : Array Value} {b : Bool} (h : FnP Tryd.prog f args (aB b)) {W : World} (hs : vals.size = args.length) (hr : ∀ i (hi : i < args.length), RepF W (fun _ => False) (args[i]) (vals.getD i undef)) :
    Calls Tryd.prog f vals W fun e w' => e = .returned (.bool b) ∧ Below W.heap.size W w' := by
  refine (h.2 W (fun _ => False) vals (fun _ h => h.elim) hs hr).mono ?_
  rintro e w' ⟨v, rfl, hb, hv⟩
  exact ⟨by rw [rep_val hv], hb⟩
theorem fn_str {f : FuncId} {args : List A} {vals : Array Value} {s : List UInt8} (h : FnP Tryd.prog f args (aS s)) {W : World} (hs : vals.size = args.length) (hr : ∀ i (hi : i < args.length), RepF W (fun _ => False) (args[i]) (vals.getD i undef)) :
    Calls Tryd.prog f vals W fun e w' => e = .returned (.string (mkS s)) ∧ Below W.heap.size W w' := by
  refine (h.2 W (fun _ => False) vals (fun _ h => h.elim) hs hr).mono ?_
  rintro e w' ⟨v, rfl, hb, hv⟩
  exact ⟨by rw [rep_val hv], hb⟩
theorem rep1 {W : World} {c : GApiCode} {v1 v2 v3 : Value} (h : CodeV W (fun _ => False) c v1 v2 v3) : ∀ i (hi : i < [e_GApiCode c].length), RepF W (fun _ => False) ([e_GApiCode c][i]) ((#[Value.agg #[v1, v2, v3]] : Array Value).getD i undef) := fun i hi => by
  match i, hi with
  | 0, _ => exact h.rep
theorem rep2 {W : World} {c : GApiCode} {v1 v2 v3 : Value} (h : CodeV W (fun _ => False) c v1 v2 v3) (n : Int) : ∀ i (hi : i < [e_GApiCode c, aI .i64 n].length), RepF W (fun _ => False) ([e_GApiCode c, aI .i64 n][i]) ((#[Value.agg #[v1, v2, v3], .int .i64 n] : Array Value).getD i undef) := fun i hi => by
  match i, hi with
  | 0, _ => exact h.rep
  | 1, _ => exact .t _ _ (.v _ rfl)
theorem call_great {c : GApiCode} {b : Bool} (h : f_r15_Great c = some ((b, ()), ())) {W : World} {v1 v2 v3 : Value} (hv : CodeV W (fun _ => False) c v1 v2 v3) : Calls Tryd.prog 4 #[.agg #[v1, v2, v3]] W fun e w' => e = .returned (.bool b) ∧ Below W.heap.size W w' :=
  fn_bool (r15_Great_ok (map_some1 h rfl)) rfl (rep1 hv)
theorem call_may {c : GApiCode} (h8 : ∀ x ∈ c.Ins, 0 ≤ x.Op) {W : World} {v1 v2 v3 : Value} (hv : CodeV W (fun _ => False) c v1 v2 v3) : Calls Tryd.prog 9 #[.agg #[v1, v2, v3]] W fun e w' => e = .returned (.bool (mayB c)) ∧ Below W.heap.size W w' :=
  fn_bool (r15_May_ok (map_some1 (ref_isM c h8) rfl)) rfl (rep1 hv)
theorem call_name {op : Int} (h0 : 0 ≤ op) (W : World) : Calls Tryd.prog 8 #[.int .u8 op] W fun e w' => e = .returned (.string (mkS (insName op))) ∧ Below W.heap.size W w' :=
  fn_str (args := [aI .u8 op]) (r15_Name_ok (map_some1 (name_ref op h0) rfl)) rfl fun i hi => by
    match i, hi with
    | 0, _ => exact .t _ _ (.v _ rfl)
theorem call_list {c : GApiCode} {n : Nat} (hn : n < c.Fns.length) (hm : mayB c = true) (hA : ∀ x ∈ c.Ins, -9223372036854775808 ≤ x.A ∧ x.A ≤ 9223372036854775807) {W : World} {v1 v2 v3 : Value} (hv : CodeV W (fun _ => False) c v1 v2 v3) : Calls Tryd.prog 10 #[.agg #[v1, v2, v3], .int .i64 (n : Int)] W fun e w' => e = .returned (.string (mkS (listingB c (n : Int)))) ∧ Below W.heap.size W w' :=
  fn_str (args := [e_GApiCode c, aI .i64 (n : Int)]) (r15_Listing_ok (map_some1 (listing_ref c n hn hm hA) rfl)) rfl (rep2 hv n)
theorem keep_box {b : Nat} {o : Obj} {W W' : World} (h : W.heap[b]? = some o) (hb : Below W.heap.size W W') : W'.heap[b]? = some o := (hb.block b (Array.getElem?_eq_some_iff.1 h).1).trans h
theorem codeLists_raw (W : World) (c : GApiCode) (v1 v2 v3 : Value) (hv : CodeV W (fun _ => False) c v1 v2 v3) (fn op : Int) (h0 : 0 ≤ op) (h1 : op < 256) (h8 : ∀ x ∈ c.Ins, 0 ≤ x.Op) (hA : ∀ x ∈ c.Ins, -9223372036854775808 ≤ x.A ∧ x.A ≤ 9223372036854775807) (ht : Lib.TabIs Tryd.prog W "internal/strconv.uint64pow10" .u64 Lib.pow10Tab) :
    Calls Tryd.prog 3 #[.agg #[v1, v2, v3], .int .i64 fn, .int .u8 op] W fun e w' => e = .returned (.bool true) ∧ Below W.heap.size W w' := by
  obtain ⟨b, hb⟩ := great_at c
  obtain ⟨a2, k2, rfl, n2, m2, r2⟩ := rowC_of hv.r2 cellE (fun x j hj => by
    match j, hj with
    | 0, _ => rfl
    | 1, _ => rfl
    | 2, _ => rfl
    | 3, _ => rfl
    | 4, _ => rfl)
  clear r2
  have HV := Lib.hid hv; clear hv
  have HG := Lib.hid hb; clear hb
  have HT := Lib.hid ht; clear ht
  have H8 := Lib.hid h8; clear h8
  have HA := Lib.hid hA; clear hA
  obtain ⟨nm, hnm⟩ : ∃ s : ByteArray, s = mkS (insName op) := ⟨_, rfl⟩
  have c1 : ∀ w : World, Calls Tryd.prog 7 #[.int .u8 op] w fun e w' => e = .returned (.string nm) ∧ Below w.heap.size w w' := fun w => by rw [hnm]; exact name_walk op h0 h1 w
  have c2 : ∀ w : World, Calls Tryd.prog 8 #[.int .u8 op] w fun e w' => e = .returned (.string nm) ∧ Below w.heap.size w w' := fun w => by rw [hnm]; exact call_name h0 w
  have C1 := Lib.hid c1; clear c1
  have C2 := Lib.hid c2; clear c2
  clear hnm
  cases b with
  | true =>
    go_enter Tryd.func3, Tryd.ntmps3
    go_wp2_with (first | (go_at_call 4; go_must (refine (call_great HG.out (HV.out.to ((Below.refl _ _).alloc (Nat.le_refl _) _))).mono ?_; rintro e w1 ⟨rfl, hb1⟩; have hw1 := ((Below.refl _ W).alloc (Nat.le_refl _) _).trans (hb1.mono (by simp)); have HB := Lib.hid hw1; clear hb1 hw1)) | (go_at_call 5; go_must (refine (awake15 _).mono ?_; rintro e w2 ⟨rfl, hb2⟩)))
    go_ret
    exact ⟨rfl, HB.out.trans (hb2.mono HB.out.size)⟩
  | false =>
    by_cases hgood : mayB c = true ∧ 0 ≤ fn ∧ fn < c.Fns.length
    · obtain ⟨hm, z0, z1⟩ := hgood
      obtain ⟨n, rfl⟩ : ∃ n : Nat, fn = (n : Int) := ⟨fn.toNat, by omega⟩
      have z2 : ¬ (n : Int) < 0 := by omega
      have z3 : ¬ c.Fns.length ≤ n := by omega
      obtain ⟨ls, hls⟩ : ∃ s : ByteArray, s = mkS (listingB c (n : Int)) := ⟨_, rfl⟩
      have cl : ∀ w : World, CodeV w (fun _ => False) c v1 (.slice a2 c.Fns.length k2) v3 → Lib.TabIs Tryd.prog w "internal/strconv.uint64pow10" .u64 Lib.pow10Tab → Calls Tryd.prog 6 #[.agg #[v1, .slice a2 c.Fns.length k2, v3], .int .i64 (n : Int)] w fun e w' => e = .returned (.string ls) ∧ Below w.heap.size w w' := fun w hw htw => by rw [hls]; exact listing_at w c _ _ _ n hw HA.out htw
      have cr : ∀ w : World, CodeV w (fun _ => False) c v1 (.slice a2 c.Fns.length k2) v3 → Calls Tryd.prog 10 #[.agg #[v1, .slice a2 c.Fns.length k2, v3], .int .i64 (n : Int)] w fun e w' => e = .returned (.string ls) ∧ Below w.heap.size w w' := fun w hw => by rw [hls]; exact call_list (by omega) hm HA.out hw
      have CL := Lib.hid cl; clear cl
      have CR := Lib.hid cr; clear cr
      have HM := Lib.hid hm; clear hm hls
      go_enter Tryd.func3, Tryd.ntmps3
      go_wp2_with (first | (go_at_call 4; go_must (refine (call_great HG.out (HV.out.to ((Below.refl _ _).alloc (Nat.le_refl _) _))).mono ?_; rintro e w1 ⟨rfl, hb1⟩; (have hX1 := (hb1.block W.heap.size (by simp)).trans (heap_alloc_last W _)); (have q0 := Lib.cell_of_heap hX1 0); (have q1 := Lib.cell_of_heap hX1 1); (have q2 := Lib.cell_of_heap hX1 2); simp only [List.getElem?_toArray, List.getElem?_cons_zero, List.getElem?_cons_succ] at q0 q1 q2; (have HX1 := Lib.hid hX1); (have HB1 := Lib.hid (((Below.refl _ W).alloc (Nat.le_refl _) _).trans (hb1.mono (by simp)))); clear hX1 hb1)) | (go_at_call 6; go_must (refine (CL.out w1 (HV.out.to HB1.out) (Go.Joins.tab_stays gPow HT.out HB1.out (Nat.le_refl _))).mono ?_; rintro e w2 ⟨rfl, hb2⟩; clear q0 q1 q2; (have hX2 := keep_box HX1.out hb2); (have q0 := Lib.cell_of_heap hX2 0); (have q1 := Lib.cell_of_heap hX2 1); (have q2 := Lib.cell_of_heap hX2 2); simp only [List.getElem?_toArray, List.getElem?_cons_zero, List.getElem?_cons_succ] at q0 q1 q2; (have HX2 := Lib.hid hX2); (have HB2 := Lib.hid (HB1.out.trans (hb2.mono HB1.out.size))); clear hX2 hb2)) | (go_at_call 7; go_must (refine (C1.out _).mono ?_; rintro e w3 ⟨rfl, hb3⟩; clear q0 q1 q2; (have hX3 := keep_box HX2.out hb3); (have q0 := Lib.cell_of_heap hX3 0); (have q1 := Lib.cell_of_heap hX3 1); (have q2 := Lib.cell_of_heap hX3 2); simp only [List.getElem?_toArray, List.getElem?_cons_zero, List.getElem?_cons_succ] at q0 q1 q2; (have HX3 := Lib.hid hX3); (have HB3 := Lib.hid (HB2.out.trans (hb3.mono HB2.out.size))); clear hX3 hb3)) | (go_at_call 8; go_must (refine (C2.out _).mono ?_; rintro e w4 ⟨rfl, hb4⟩; clear q0 q1 q2; (have hX4 := keep_box HX3.out hb4); (have q0 := Lib.cell_of_heap hX4 0); (have q1 := Lib.cell_of_heap hX4 1); (have q2 := Lib.cell_of_heap hX4 2); simp only [List.getElem?_toArray, List.getElem?_cons_zero, List.getElem?_cons_succ] at q0 q1 q2; (have HX4 := Lib.hid hX4); (have HB4 := Lib.hid (HB3.out.trans (hb4.mono HB3.out.size))); clear hX4 hb4)) | (go_at_call 9; go_must (refine (call_may H8.out (HV.out.to HB4.out)).mono ?_; rintro e w5 ⟨rfl, hb5⟩; rw [HM.out]; clear q0 q1 q2; (have hX5 := keep_box HX4.out hb5); (have q0 := Lib.cell_of_heap hX5 0); (have q1 := Lib.cell_of_heap hX5 1); (have q2 := Lib.cell_of_heap hX5 2); simp only [List.getElem?_toArray, List.getElem?_cons_zero, List.getElem?_cons_succ] at q0 q1 q2; (have HX5 := Lib.hid hX5); (have HB5 := Lib.hid (HB4.out.trans (hb5.mono HB4.out.size))); clear hX5 hb5)) | (go_at_call 10; go_must (refine (CR.out w5 (HV.out.to HB5.out)).mono ?_; rintro e w6 ⟨rfl, hb6⟩; clear q0 q1 q2; (have hX6 := keep_box HX5.out hb6); (have q0 := Lib.cell_of_heap hX6 0); (have q1 := Lib.cell_of_heap hX6 1); (have q2 := Lib.cell_of_heap hX6 2); simp only [List.getElem?_toArray, List.getElem?_cons_zero, List.getElem?_cons_succ] at q0 q1 q2; (have HX6 := Lib.hid hX6); (have HB6 := Lib.hid (HB5.out.trans (hb6.mono HB5.out.size))); clear hX6 hb6)) | (go_at_call 5; go_must (refine (awake15 _).mono ?_; rintro e w7 ⟨rfl, hb7⟩; (have HB7 := Lib.hid (HB6.out.trans (hb7.mono HB6.out.size))); clear hb7)))
      go_ret
      exact ⟨rfl, HB7.out⟩
    · have cl : ∀ w : World, CodeV w (fun _ => False) c v1 (.slice a2 c.Fns.length k2) v3 → Lib.TabIs Tryd.prog w "internal/strconv.uint64pow10" .u64 Lib.pow10Tab → Calls Tryd.prog 6 #[.agg #[v1, .slice a2 c.Fns.length k2, v3], .int .i64 fn] w fun e w' => e = .returned (.string (mkS [])) ∧ Below w.heap.size w w' := fun w hw htw => by
        refine listing_bad w c _ _ _ fn hw ?_
        by_cases y0 : fn < 0
        · exact .inl y0
        · by_cases y1 : (c.Fns.length : Int) ≤ fn
          · exact .inr (.inl y1)
          · refine .inr (.inr ?_)
            cases hm : mayB c with
            | false => rfl
            | true => exact absurd ⟨hm, by omega, by omega⟩ hgood
      have CL := Lib.hid cl; clear cl
      cases hm : mayB c with
      | false =>
        have HM := Lib.hid hm; clear hm hgood
        go_enter Tryd.func3, Tryd.ntmps3
        go_wp2_with (first | (go_at_call 4; go_must (refine (call_great HG.out (HV.out.to ((Below.refl _ _).alloc (Nat.le_refl _) _))).mono ?_; rintro e w1 ⟨rfl, hb1⟩; (have hX1 := (hb1.block W.heap.size (by simp)).trans (heap_alloc_last W _)); (have q0 := Lib.cell_of_heap hX1 0); (have q1 := Lib.cell_of_heap hX1 1); (have q2 := Lib.cell_of_heap hX1 2); simp only [List.getElem?_toArray, List.getElem?_cons_zero, List.getElem?_cons_succ] at q0 q1 q2; (have HX1 := Lib.hid hX1); (have HB1 := Lib.hid (((Below.refl _ W).alloc (Nat.le_refl _) _).trans (hb1.mono (by simp)))); clear hX1 hb1)) | (go_at_call 6; go_must (refine (CL.out w1 (HV.out.to HB1.out) (Go.Joins.tab_stays gPow HT.out HB1.out (Nat.le_refl _))).mono ?_; rintro e w2 ⟨rfl, hb2⟩; clear q0 q1 q2; (have hX2 := keep_box HX1.out hb2); (have q0 := Lib.cell_of_heap hX2 0); (have q1 := Lib.cell_of_heap hX2 1); (have q2 := Lib.cell_of_heap hX2 2); simp only [List.getElem?_toArray, List.getElem?_cons_zero, List.getElem?_cons_succ] at q0 q1 q2; (have HX2 := Lib.hid hX2); (have HB2 := Lib.hid (HB1.out.trans (hb2.mono HB1.out.size))); clear hX2 hb2)) | (go_at_call 7; go_must (refine (C1.out _).mono ?_; rintro e w3 ⟨rfl, hb3⟩; clear q0 q1 q2; (have hX3 := keep_box HX2.out hb3); (have q0 := Lib.cell_of_heap hX3 0); (have q1 := Lib.cell_of_heap hX3 1); (have q2 := Lib.cell_of_heap hX3 2); simp only [List.getElem?_toArray, List.getElem?_cons_zero, List.getElem?_cons_succ] at q0 q1 q2; (have HX3 := Lib.hid hX3); (have HB3 := Lib.hid (HB2.out.trans (hb3.mono HB2.out.size))); clear hX3 hb3)) | (go_at_call 8; go_must (refine (C2.out _).mono ?_; rintro e w4 ⟨rfl, hb4⟩; clear q0 q1 q2; (have hX4 := keep_box HX3.out hb4); (have q0 := Lib.cell_of_heap hX4 0); (have q1 := Lib.cell_of_heap hX4 1); (have q2 := Lib.cell_of_heap hX4 2); simp only [List.getElem?_toArray, List.getElem?_cons_zero, List.getElem?_cons_succ] at q0 q1 q2; (have HX4 := Lib.hid hX4); (have HB4 := Lib.hid (HB3.out.trans (hb4.mono HB3.out.size))); clear hX4 hb4)) | (go_at_call 9; go_must (refine (call_may H8.out (HV.out.to HB4.out)).mono ?_; rintro e w5 ⟨rfl, hb5⟩; rw [HM.out]; clear q0 q1 q2; (have hX5 := keep_box HX4.out hb5); (have q0 := Lib.cell_of_heap hX5 0); (have q1 := Lib.cell_of_heap hX5 1); (have q2 := Lib.cell_of_heap hX5 2); simp only [List.getElem?_toArray, List.getElem?_cons_zero, List.getElem?_cons_succ] at q0 q1 q2; (have HX5 := Lib.hid hX5); (have HB5 := Lib.hid (HB4.out.trans (hb5.mono HB4.out.size))); clear hX5 hb5)) | (go_at_call 5; go_must (refine (awake15 _).mono ?_; rintro e w6 ⟨rfl, hb6⟩; (have HB6 := Lib.hid (HB5.out.trans (hb6.mono HB5.out.size))); clear hb6)))
        go_ret
        exact ⟨rfl, HB6.out⟩
      | true =>
        have z0 : fn < 0 ∨ (c.Fns.length : Int) ≤ fn := by
          by_cases y0 : fn < 0
          · exact .inl y0
          · by_cases y1 : (c.Fns.length : Int) ≤ fn
            · exact .inr y1
            · exact absurd ⟨hm, by omega, by omega⟩ hgood
        have HM := Lib.hid hm; clear hm hgood
        by_cases y0 : fn < 0
        · clear z0
          go_enter Tryd.func3, Tryd.ntmps3
          go_wp2_with (first | (go_at_call 4; go_must (refine (call_great HG.out (HV.out.to ((Below.refl _ _).alloc (Nat.le_refl _) _))).mono ?_; rintro e w1 ⟨rfl, hb1⟩; (have hX1 := (hb1.block W.heap.size (by simp)).trans (heap_alloc_last W _)); (have q0 := Lib.cell_of_heap hX1 0); (have q1 := Lib.cell_of_heap hX1 1); (have q2 := Lib.cell_of_heap hX1 2); simp only [List.getElem?_toArray, List.getElem?_cons_zero, List.getElem?_cons_succ] at q0 q1 q2; (have HX1 := Lib.hid hX1); (have HB1 := Lib.hid (((Below.refl _ W).alloc (Nat.le_refl _) _).trans (hb1.mono (by simp)))); clear hX1 hb1)) | (go_at_call 6; go_must (refine (CL.out w1 (HV.out.to HB1.out) (Go.Joins.tab_stays gPow HT.out HB1.out (Nat.le_refl _))).mono ?_; rintro e w2 ⟨rfl, hb2⟩; clear q0 q1 q2; (have hX2 := keep_box HX1.out hb2); (have q0 := Lib.cell_of_heap hX2 0); (have q1 := Lib.cell_of_heap hX2 1); (have q2 := Lib.cell_of_heap hX2 2); simp only [List.getElem?_toArray, List.getElem?_cons_zero, List.getElem?_cons_succ] at q0 q1 q2; (have HX2 := Lib.hid hX2); (have HB2 := Lib.hid (HB1.out.trans (hb2.mono HB1.out.size))); clear hX2 hb2)) | (go_at_call 7; go_must (refine (C1.out _).mono ?_; rintro e w3 ⟨rfl, hb3⟩; clear q0 q1 q2; (have hX3 := keep_box HX2.out hb3); (have q0 := Lib.cell_of_heap hX3 0); (have q1 := Lib.cell_of_heap hX3 1); (have q2 := Lib.cell_of_heap hX3 2); simp only [List.getElem?_toArray, List.getElem?_cons_zero, List.getElem?_cons_succ] at q0 q1 q2; (have HX3 := Lib.hid hX3); (have HB3 := Lib.hid (HB2.out.trans (hb3.mono HB2.out.size))); clear hX3 hb3)) | (go_at_call 8; go_must (refine (C2.out _).mono ?_; rintro e w4 ⟨rfl, hb4⟩; clear q0 q1 q2; (have hX4 := keep_box HX3.out hb4); (have q0 := Lib.cell_of_heap hX4 0); (have q1 := Lib.cell_of_heap hX4 1); (have q2 := Lib.cell_of_heap hX4 2); simp only [List.getElem?_toArray, List.getElem?_cons_zero, List.getElem?_cons_succ] at q0 q1 q2; (have HX4 := Lib.hid hX4); (have HB4 := Lib.hid (HB3.out.trans (hb4.mono HB3.out.size))); clear hX4 hb4)) | (go_at_call 9; go_must (refine (call_may H8.out (HV.out.to HB4.out)).mono ?_; rintro e w5 ⟨rfl, hb5⟩; rw [HM.out]; clear q0 q1 q2; (have hX5 := keep_box HX4.out hb5); (have q0 := Lib.cell_of_heap hX5 0); (have q1 := Lib.cell_of_heap hX5 1); (have q2 := Lib.cell_of_heap hX5 2); simp only [List.getElem?_toArray, List.getElem?_cons_zero, List.getElem?_cons_succ] at q0 q1 q2; (have HX5 := Lib.hid hX5); (have HB5 := Lib.hid (HB4.out.trans (hb5.mono HB4.out.size))); clear hX5 hb5)) | (go_at_call 5; go_must (refine (awake15 _).mono ?_; rintro e w6 ⟨rfl, hb6⟩; (have HB6 := Lib.hid (HB5.out.trans (hb6.mono HB5.out.size))); clear hb6)))
          go_ret
          exact ⟨rfl, HB6.out⟩
        · have y1 : (c.Fns.length : Int) ≤ fn := by omega
          have y2 : 0 ≤ fn := by omega
          clear z0
          go_enter Tryd.func3, Tryd.ntmps3
          go_wp2_with (first | (go_at_call 4; go_must (refine (call_great HG.out (HV.out.to ((Below.refl _ _).alloc (Nat.le_refl _) _))).mono ?_; rintro e w1 ⟨rfl, hb1⟩; (have hX1 := (hb1.block W.heap.size (by simp)).trans (heap_alloc_last W _)); (have q0 := Lib.cell_of_heap hX1 0); (have q1 := Lib.cell_of_heap hX1 1); (have q2 := Lib.cell_of_heap hX1 2); simp only [List.getElem?_toArray, List.getElem?_cons_zero, List.getElem?_cons_succ] at q0 q1 q2; (have HX1 := Lib.hid hX1); (have HB1 := Lib.hid (((Below.refl _ W).alloc (Nat.le_refl _) _).trans (hb1.mono (by simp)))); clear hX1 hb1)) | (go_at_call 6; go_must (refine (CL.out w1 (HV.out.to HB1.out) (Go.Joins.tab_stays gPow HT.out HB1.out (Nat.le_refl _))).mono ?_; rintro e w2 ⟨rfl, hb2⟩; clear q0 q1 q2; (have hX2 := keep_box HX1.out hb2); (have q0 := Lib.cell_of_heap hX2 0); (have q1 := Lib.cell_of_heap hX2 1); (have q2 := Lib.cell_of_heap hX2 2); simp only [List.getElem?_toArray, List.getElem?_cons_zero, List.getElem?_cons_succ] at q0 q1 q2; (have HX2 := Lib.hid hX2); (have HB2 := Lib.hid (HB1.out.trans (hb2.mono HB1.out.size))); clear hX2 hb2)) | (go_at_call 7; go_must (refine (C1.out _).mono ?_; rintro e w3 ⟨rfl, hb3⟩; clear q0 q1 q2; (have hX3 := keep_box HX2.out hb3); (have q0 := Lib.cell_of_heap hX3 0); (have q1 := Lib.cell_of_heap hX3 1); (have q2 := Lib.cell_of_heap hX3 2); simp only [List.getElem?_toArray, List.getElem?_cons_zero, List.getElem?_cons_succ] at q0 q1 q2; (have HX3 := Lib.hid hX3); (have HB3 := Lib.hid (HB2.out.trans (hb3.mono HB2.out.size))); clear hX3 hb3)) | (go_at_call 8; go_must (refine (C2.out _).mono ?_; rintro e w4 ⟨rfl, hb4⟩; clear q0 q1 q2; (have hX4 := keep_box HX3.out hb4); (have q0 := Lib.cell_of_heap hX4 0); (have q1 := Lib.cell_of_heap hX4 1); (have q2 := Lib.cell_of_heap hX4 2); simp only [List.getElem?_toArray, List.getElem?_cons_zero, List.getElem?_cons_succ] at q0 q1 q2; (have HX4 := Lib.hid hX4); (have HB4 := Lib.hid (HB3.out.trans (hb4.mono HB3.out.size))); clear hX4 hb4)) | (go_at_call 9; go_must (refine (call_may H8.out (HV.out.to HB4.out)).mono ?_; rintro e w5 ⟨rfl, hb5⟩; rw [HM.out]; clear q0 q1 q2; (have hX5 := keep_box HX4.out hb5); (have q0 := Lib.cell_of_heap hX5 0); (have q1 := Lib.cell_of_heap hX5 1); (have q2 := Lib.cell_of_heap hX5 2); simp only [List.getElem?_toArray, List.getElem?_cons_zero, List.getElem?_cons_succ] at q0 q1 q2; (have HX5 := Lib.hid hX5); (have HB5 := Lib.hid (HB4.out.trans (hb5.mono HB4.out.size))); clear hX5 hb5)) | (go_at_call 5; go_must (refine (awake15 _).mono ?_; rintro e w6 ⟨rfl, hb6⟩; (have HB6 := Lib.hid (HB5.out.trans (hb6.mono HB5.out.size))); clear hb6)))
          go_ret
          exact ⟨rfl, HB6.out⟩
end Go.Proofs.YtcmpcbpdnaodmaaDoor
