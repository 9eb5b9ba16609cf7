/- Parts of the proof. -/
import Derived.Test.YtcmpcbpdnaodmaaDoorChecked
import Derived.Test.YtcmpcbpdnaodmaaDoorLsCodeRep
import Derived.WalkLawsBesides
namespace Go.Proofs.YtcmpcbpdnaodmaaDoor
open Go.RowKit
set_option linter.unusedVariables false
set_option maxHeartbeats 4000000 in
set_option maxRecDepth 100000 in
theorem code_May (v1 v2 v3 : Value) (c : CCode) (w : World) (hc : CodeAt w v1 v2 v3 c) :
    Calls Tryd.prog 12 #[.agg #[v1, v2, v3]] w fun e w' => e = .returned (.bool (mayC c)) ∧ Below w.heap.size w w' := by
  obtain ⟨li, lf, ls⟩ := c
  obtain ⟨a1, c1, rfl, n1, r1⟩ := ins_cells hc.ins
  obtain ⟨a2, c2, rfl, n2, r2⟩ := ent_cells hc.fns
  obtain ⟨a3, c3, rfl, n3, r3⟩ := str_cells hc.strs
  dsimp only at *
  unfold maxLen at n1 n2 n3
  have H1 := Lib.hid r1; clear r1
  have H2 := Lib.hid r2; clear r2
  have H3 := Lib.hid r3; clear r3
  have HW := Lib.hid hc; clear hc
  by_cases hs : lf.length > 100 ∨ li.length > 65536 ∨ ls.length > 65536
  · have hm := Lib.hid (may_sizes (c := (li, lf, ls)) hs)
    have hs1 : ((100 : Int) < lf.length) ∨ (¬ (100 : Int) < lf.length ∧ (65536 : Int) < li.length) ∨ (¬ (100 : Int) < lf.length ∧ ¬ (65536 : Int) < li.length ∧ (65536 : Int) < ls.length) := by omega
    clear hs
    rcases hs1 with h | ⟨h, h'⟩ | ⟨h, h', h''⟩
    all_goals
      go_enter Tryd.func12, Tryd.ntmps12
      go_wp2_with fail
      go_ret
      exact ⟨(by first | rfl | ((rw [hm.out]) <;> rfl)), (by repeat' (first | exact Below.refl _ _ | assumption | (refine thenB ?_ (by assumption)) | (refine belowN ?_ _) | (refine Below.alloc ?_ (by first | simp; done | (simp; omega) | omega) _) | (refine below_setRow ?_ (by first | simp; done | (simp; omega) | omega) _) | (refine Below.setCell ?_ (by first | simp; done | (simp; omega) | omega) _)))⟩
  have s1 : (lf.length : Int) ≤ 100 := by omega
  have s2 : (li.length : Int) ≤ 65536 := by omega
  have s3 : (ls.length : Int) ≤ 65536 := by omega
  clear hs
  go_enter Tryd.func12, Tryd.ntmps12
  go_wp2_with fail
  go_loopw [3,5,30] (fun at_ f i wr => ∃ k : Nat, k ≤ lf.length ∧ i = .int .i64 k ∧ at_ = .int .i64 (lens (lf.take k)) ∧ 0 ≤ lens (lf.take k) ∧ lens (lf.take k) ≤ li.length ∧ entsOk 0 (lf.take k) = true ∧ Below w.heap.size w wr ∧ Has wr w.heap.size #[.slice a1 li.length c1, .slice a2 lf.length c2, .slice a3 ls.length c3] 26) (fun _ _ i _ => lf.length - (intOf i).toNat)
  case atStart => exact ⟨0, by omega, rfl, rfl, by simp [lens], by simp [lens], by simp [entsOk], (by repeat' (first | exact Below.refl _ _ | assumption | (refine thenB ?_ (by assumption)) | (refine belowN ?_ _) | (refine Below.alloc ?_ (by first | simp; done | (simp; omega) | omega) _) | (refine below_setRow ?_ (by first | simp; done | (simp; omega) | omega) _) | (refine Below.setCell ?_ (by first | simp; done | (simp; omega) | omega) _))), (by repeat' (first | assumption | (refine has_drewN ?_ _) | (refine has_drew ?_) | (refine has_new _ _ _ _ ?_ <;> (first | rfl | (simp; done))) | (refine has_alloc ?_ _) | (refine has_setCell ?_ _ _ (by first | assumption | (simp; omega) | omega)) | (refine has_setRow ?_ _ _ (by first | assumption | (simp; omega) | omega)) | (refine has_belowT ?_ (by assumption))))⟩
  case round =>
    obtain ⟨k, hk, rfl, rfl, l0, l1, he, hbw, hbx⟩ := hrel
    have HX := Lib.hid hbx
    have hcx := has_cell hbx
    have hlx := has_lt hbx
    clear hbx
    by_cases hlt : k < lf.length
    · obtain ⟨b, off, rfl, hblt, g0, g1, g2, g3, g4⟩ := H2.out k hlt
      have hbad := may_bad_ent (c := (li, lf, ls)) (k := k) hlt
      have hwide := HW.out.wf lf[k] (List.getElem_mem hlt)
      have hnext := lens_take hlt
      have hents := fun h1 h2 => ents_take hlt he h1 h2
      clear he
      dsimp only at hbad
      obtain ⟨fa, fl, fp, fs, fr, hf⟩ : ∃ fa fl fp fs fr, lf[k] = (fa, fl, fp, fs, fr) := ⟨_, _, _, _, _, rfl⟩
      rw [hf] at g0 g1 g2 g3 g4 hbad hwide hnext hents
      clear hf
      have HB := Lib.hid hbad; clear hbad
      have HE := Lib.hid hents; clear hents
      obtain ⟨⟨i1, i2⟩, ⟨i3, i4⟩, ⟨i5, i6⟩, ⟨i7, i8⟩, i9, i10⟩ := hwide
      rw [← hbw.cell (p := ⟨b, _, none⟩) hblt] at g0 g1 g2 g3 g4
      dsimp only at *
      generalize hat : lens (lf.take k) = at_ at *
      have HN := Lib.hid hnext; clear hnext hat
      have hk2 : (k : Int) < lf.length := by omega
      have hbl : b < wr.heap.size := Nat.lt_of_lt_of_le hblt hbw.size
      go_wp2_with fail
      all_goals first
        | (go_roundw
           case rel => exact ⟨k + 1, by omega, by go_num, by rw [HN.out], by rw [HN.out]; omega, by rw [HN.out]; omega, HE.out (by omega) (by unfold entOk; simp; omega), (by repeat' (first | exact Below.refl _ _ | assumption | (refine thenB ?_ (by assumption)) | (refine belowN ?_ _) | (refine Below.alloc ?_ (by first | simp; done | (simp; omega) | omega) _) | (refine below_setRow ?_ (by first | simp; done | (simp; omega) | omega) _) | (refine Below.setCell ?_ (by first | simp; done | (simp; omega) | omega) _))), has_alloc HX.out _⟩
           case measure => simp [intOf]; omega)
        | (go_ret
           exact ⟨by rw [HB.out (by unfold entGood; dsimp only; omega)]; rfl, (by repeat' (first | exact Below.refl _ _ | assumption | (refine thenB ?_ (by assumption)) | (refine belowN ?_ _) | (refine Below.alloc ?_ (by first | simp; done | (simp; omega) | omega) _) | (refine below_setRow ?_ (by first | simp; done | (simp; omega) | omega) _) | (refine Below.setCell ?_ (by first | simp; done | (simp; omega) | omega) _)))⟩)
    · obtain rfl : k = lf.length := by omega
      rw [List.take_of_length_le (Nat.le_refl _)] at he l0 l1 ⊢
      have HE := Lib.hid he; clear he
      by_cases hsum : lens lf = li.length
      · have hsum' : (lens lf == (li.length : Int)) = true := by rw [beq_iff_eq]; exact hsum
        have hsum2 : (lens lf != (li.length : Int)) = false := by rw [bne_eq_false_iff_eq]; exact hsum
        have HS := Lib.hid hsum; clear hsum
        go_wp2_with fail
        go_loopw [7,93] (fun x i wr => ∃ k : Nat, k ≤ li.length ∧ i = .int .i64 k ∧ (∀ y ∈ li.take k, insOk y = true) ∧ Below w.heap.size w wr ∧ Has wr w.heap.size #[.slice a1 li.length c1, .slice a2 lf.length c2, .slice a3 ls.length c3] 26) (fun _ i _ => li.length - (intOf i).toNat)
        case atStart => exact ⟨0, by omega, rfl, by simp, hbw, HX.out⟩
        case round =>
          clear hbw HX hcx hlx
          obtain ⟨k, hk, rfl, hok, hbw, hbx⟩ := hrel
          have HX := Lib.hid hbx
          have hcx := has_cell hbx
          have hlx := has_lt hbx
          clear hbx
          have HO := Lib.hid hok; clear hok
          by_cases hlt : k < li.length
          · obtain ⟨b, off, rfl, hblt, g0, g1, g2⟩ := H1.out k hlt
            have hbad := may_bad_ins (c := (li, lf, ls)) (k := k) hlt
            have hwide := HW.out.wi li[k] (List.getElem_mem hlt)
            have hnext : ∀ y ∈ li.take (k + 1), y ∈ li.take k ∨ y = li[k] := fun y hy => by
              rw [List.take_succ_eq_append_getElem hlt] at hy
              rcases List.mem_append.1 hy with h | h
              · exact .inl h
              · right; simpa using h
            dsimp only at hbad
            obtain ⟨xo, xa, xl, hf⟩ : ∃ xo xa xl, li[k] = (xo, xa, xl) := ⟨_, _, _, rfl⟩
            rw [hf] at g0 g1 g2 hbad hwide hnext
            clear hf
            have HB := Lib.hid hbad; clear hbad
            have HN := Lib.hid hnext; clear hnext
            obtain ⟨i0, ⟨i1, i2⟩, ⟨i3, i4⟩⟩ := hwide
            rw [← hbw.cell (p := ⟨b, _, none⟩) hblt] at g0 g1 g2
            dsimp only at *
            have hk2 : (k : Int) < li.length := by omega
            have hbl : b < wr.heap.size := Nat.lt_of_lt_of_le hblt hbw.size
            go_wp2_with fail
            all_goals first
              | (go_roundw
                 case rel => exact ⟨k + 1, by omega, by go_num, (fun y hy => by
                   rcases HN.out y hy with h | h
                   · exact HO.out y h
                   · rw [h]; unfold insOk; simp; omega), (by repeat' (first | exact Below.refl _ _ | assumption | (refine thenB ?_ (by assumption)) | (refine belowN ?_ _) | (refine Below.alloc ?_ (by first | simp; done | (simp; omega) | omega) _) | (refine below_setRow ?_ (by first | simp; done | (simp; omega) | omega) _) | (refine Below.setCell ?_ (by first | simp; done | (simp; omega) | omega) _))), has_alloc HX.out _⟩
                 case measure => simp [intOf]; omega)
              | (go_ret
                 exact ⟨by rw [HB.out (by unfold insOk; simp; omega)]; rfl, (by repeat' (first | exact Below.refl _ _ | assumption | (refine thenB ?_ (by assumption)) | (refine belowN ?_ _) | (refine Below.alloc ?_ (by first | simp; done | (simp; omega) | omega) _) | (refine below_setRow ?_ (by first | simp; done | (simp; omega) | omega) _) | (refine Below.setCell ?_ (by first | simp; done | (simp; omega) | omega) _)))⟩)
          · obtain rfl : k = li.length := by omega
            have hok := HO.out
            rw [List.take_of_length_le (Nat.le_refl _)] at hok
            have HK := Lib.hid hok; clear hok HO
            go_wp2_with fail
            go_loopw [8,10,119] (fun lft s i wr => ∃ k : Nat, k ≤ ls.length ∧ i = .int .i64 k ∧ bytesOf (ls.take k) ≤ 1048576 ∧ lft = .int .i64 (1048576 - (bytesOf (ls.take k) : Int)) ∧ Below w.heap.size w wr ∧ Has wr w.heap.size #[.slice a1 li.length c1, .slice a2 lf.length c2, .slice a3 ls.length c3] 26) (fun _ _ i _ => ls.length - (intOf i).toNat)
            case atStart => exact ⟨0, by omega, rfl, by simp [bytesOf], by simp [bytesOf], hbw, HX.out⟩
            case round =>
              clear hbw HX hcx hlx
              obtain ⟨k, hk, rfl, hby, rfl, hbw, hbx⟩ := hrel
              have HX := Lib.hid hbx
              have hcx := has_cell hbx
              have hlx := has_lt hbx
              clear hbx
              by_cases hlt : k < ls.length
              · obtain ⟨b, off, rfl, hblt, g0⟩ := H3.out k hlt
                have hbad := may_bad_bytes (c := (li, lf, ls)) (k := k) hlt
                have hnext := bytes_take hlt
                have hwide := HW.out.ws ls[k] (List.getElem_mem hlt)
                unfold maxLen at hwide
                dsimp only at hbad
                generalize ls[k] = s at *
                unfold strVl at g0
                have HB := Lib.hid hbad; clear hbad
                generalize hbs : bytesOf (ls.take k) = B at *
                have HN := Lib.hid hnext; clear hnext hbs
                rw [← hbw.cell (p := ⟨b, _, none⟩) hblt] at g0
                have hk2 : (k : Int) < ls.length := by omega
                have hbl : b < wr.heap.size := Nat.lt_of_lt_of_le hblt hbw.size
                by_cases hfit : (1048576 : Int) - B < s.length
                · go_wp2_with fail
                  go_ret
                  exact ⟨by rw [HB.out (by omega)]; rfl, (by repeat' (first | exact Below.refl _ _ | assumption | (refine thenB ?_ (by assumption)) | (refine belowN ?_ _) | (refine Below.alloc ?_ (by first | simp; done | (simp; omega) | omega) _) | (refine below_setRow ?_ (by first | simp; done | (simp; omega) | omega) _) | (refine Below.setCell ?_ (by first | simp; done | (simp; omega) | omega) _)))⟩
                · go_wp2_with fail
                  go_roundw
                  case rel => exact ⟨k + 1, by omega, by go_num, by rw [HN.out]; omega, by rw [HN.out]; go_num, (by repeat' (first | exact Below.refl _ _ | assumption | (refine thenB ?_ (by assumption)) | (refine belowN ?_ _) | (refine Below.alloc ?_ (by first | simp; done | (simp; omega) | omega) _) | (refine below_setRow ?_ (by first | simp; done | (simp; omega) | omega) _) | (refine Below.setCell ?_ (by first | simp; done | (simp; omega) | omega) _))), HX.out⟩
                  case measure => simp [intOf]; omega
              · obtain rfl : k = ls.length := by omega
                rw [List.take_of_length_le (Nat.le_refl _)] at hby
                have hm := Lib.hid (may_good (c := (li, lf, ls)) (by dsimp only; omega) (by dsimp only; omega) (by dsimp only; omega) HE.out HS.out HK.out hby)
                go_wp2_with fail
                go_ret
                exact ⟨(by first | rfl | ((rw [hm.out]) <;> rfl)), (by repeat' (first | exact Below.refl _ _ | assumption | (refine thenB ?_ (by assumption)) | (refine belowN ?_ _) | (refine Below.alloc ?_ (by first | simp; done | (simp; omega) | omega) _) | (refine below_setRow ?_ (by first | simp; done | (simp; omega) | omega) _) | (refine Below.setCell ?_ (by first | simp; done | (simp; omega) | omega) _)))⟩
      · have hsum' : (lens lf == (li.length : Int)) = false := by rw [beq_eq_false_iff_ne]; exact hsum
        have hm := Lib.hid (may_bad_sum (c := (li, lf, ls)) hsum); clear hsum
        go_wp2_with fail
        go_ret
        exact ⟨(by first | rfl | ((rw [hm.out]) <;> rfl)), (by repeat' (first | exact Below.refl _ _ | assumption | (refine thenB ?_ (by assumption)) | (refine belowN ?_ _) | (refine Below.alloc ?_ (by first | simp; done | (simp; omega) | omega) _) | (refine below_setRow ?_ (by first | simp; done | (simp; omega) | omega) _) | (refine Below.setCell ?_ (by first | simp; done | (simp; omega) | omega) _)))⟩
end Go.Proofs.YtcmpcbpdnaodmaaDoor
